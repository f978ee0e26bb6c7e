/- Joined by a program (wip/shake.py): the declarations that 'YtlkheeegkifblaaDoorCardFnKeyIn' reaches. -/
import Derived.Test.YtlkheeegkifblaaDoorZFq5
set_option linter.unusedVariables false
set_option linter.unusedSimpArgs false
set_option linter.unusedSectionVars false
set_option maxHeartbeats 8000000
set_option maxRecDepth 100000
namespace Go.Proofs.YtlkheeegkifblaaDoor.P
open Go.RowKit Go.Shelf Go.Proofs.YtlkheeegkifblaaDoorW.PrintWords Go.Proofs.YtlkheeegkifblaaDoorW.PrintLast Go.Proofs.YtlkheeegkifblaaDoorW.PrintMore Go.Proofs.YtlkheeegkifblaaDoor.PL Go.Proofs.YtlkheeegkifblaaDoor.FP
attribute [local go_sem] Oper.semAt_some

def kidsR (l:List S37) (id:Int):List Int:=if treeB l=true then (if fndF (toFo l) id=0 then [] else (sub (fndF (toFo l) id) (toFo l)).tops.map Int.ofNat) else []
def impl_TreeKids.f (k:Nat) (l0:List S37) (a1:Int):Option (List Int):=some (kidsR l0 a1)
theorem impl_TreeKids.mono (l0:List S37) (a1:Int) (k:Nat):LeO (impl_TreeKids.f k l0 a1) (impl_TreeKids.f (k+1) l0 a1):=LeO.refl _
theorem tops_le:∀ (F:Fo),F.tops.length≤F.ids.length
 | .nil=>Nat.le_refl _
 | .nd i t k n=>by have:=tops_le n;simp only [Fo.tops,Fo.ids,List.length_cons,List.length_append];omega
def KidsPost (w:World) (r:List Int) (e:Ending) (w':World):Prop:=∃ v0_:Value,e=.returned v0_∧Kd.R (Kd.int .i64) 3 w' w.heap.size (fun _=>True) v0_ r∧Below w.heap.size w w'
def numsOf {Q:Nat→Prop} (l:List (KA Q)):List Int:=l.map fun e=>(e.val:Int)
def NumsI {Q:Nat→Prop} (w:World) (g:Nat) (pre:List (KA Q)) (V:World):Prop :=
 (∃ v,Boxed V g 43 v∧Kd.R (Kd.int .i64) 3 V w.heap.size (fun _=>True) v (numsOf pre))∧Below w.heap.size w V
theorem numsI_stb {Q:Nat→Prop} {w:World} {g B:Nat} (hB:w.heap.size≤B):Stb B (NumsI (Q:=Q) w g):=fun s V W row hs hg hr=>by
 obtain ⟨⟨v,hv,hR⟩,hb⟩:=hs
 refine ⟨⟨v,hv.kept hg fun e=>?_,Kd.R_mono (Kd.R_step (Kd.R_bound hR) fun k hk hlt=>hg.block k hlt fun e=>?_) (fun _ _=>trivial)⟩,stb_below (β:=Unit) hB () V W row hb hg hr⟩
 ·obtain ⟨_,o,h1,h2⟩:=hr g e.symm
  have h3:V.heap[g]?=some (.cells #[v] 43 (0,0)):=hv
  rw [h3] at h1
  rcases h2 with h2|⟨u,h2⟩
  ·rw [←sj_ h1] at h2;cases h2
  ·rw [←sj_ h1] at h2;simp at h2
 ·obtain ⟨_,o,h1,h2⟩:=hr k e.symm
  obtain ⟨_,_,_,q,hq,cells,h3⟩:=hk
  rw [h3] at h1
  have hq:q=3:=by
   rcases List.mem_cons.1 hq with e|e
   ·exact e
   ·exact absurd e (by simp [Kd.iso,Kd.pair,Kd.int,Kd.string,Kd.scalar])
  subst hq
  rcases h2 with h2|⟨u,h2⟩
  ·rw [←sj_ h1] at h2;cases h2
  ·rw [←sj_ h1] at h2;simp at h2
theorem numsI_from {Q:Nat→Prop} {w:World} {g B:Nat} (hB:w.heap.size≤B):OwnFrom B (NumsI (Q:=Q) w g):=(numsI_stb hB).own (Nat.le_refl _)
theorem letsOut_own {α:Type} {Kp:World→World→Prop} {I:List α→World→Prop} {Ix:Code→List α→World→Prop} {id:Nat} {xs:List α} {W:World}:¬ LetsOut (Exit.inBlock id (ownPostK Kp I Ix xs W)):=fun ⟨_,_,h⟩=>h
theorem keeps_app_i {w V w3:World} {g:Nat} {v:Value} {ok:Nat→Prop} {l:List Int} (hR:Kd.R (Kd.int .i64) 3 V w.heap.size ok v l) (hg:V.drew.grownBy w3 v.ownBlock) (u:Value):KeepsOthers V (w3.setCell ⟨g,0,none⟩ u):=by
 refine KeepsOthers.trans ⟨hg.size,fun k o hk ho=>(hg.block k (Array.getElem?_eq_some_iff.1 hk).1 fun e=>?_).trans hk⟩ (KeepsOthers.setCell w3 ⟨g,0,none⟩ u)
 obtain ⟨_,hlt,q,hq,cells,hc⟩:=((Kd.R_bound hR).1 k e.symm).2
 rw [show V.heap[k]?=some o from hk] at hc
 rw [sj_ hc] at ho
 cases ho
theorem treeKids_none (A0:Option Addr) (c0:Nat) (l0:List S37) (id:Int) (w:World) (hr0:Kd.C k37 w A0 l0.length l0) (hc0:l0.length≤c0) (hG:Glob w) (hz:treeB l0=true→fndF (toFo l0) id=0) :
  Calls Tryd.prog 37 #[.slice A0 l0.length c0,.int .i64 id] w (KidsPost w []):=by
 cases ht:treeB l0 with
 | false =>
  have HP:=a_ (plant_no A0 c0 l0 w hr0 hc0 ht hG)
  clear hr0 hc0 ht hG
  go_enter Tryd.func37,Tryd.ntmps37
  go_wp2_with (go_at_call 60;(with_reducible refine (HP.out).mono ?_);clear HP;rintro en W1 ⟨rfl,hb⟩;have HB1:=a_ hb;clear hb)
  go_ret
  exact ⟨_,rfl,Kd.R_nil _ _ _ _ _,HB1.out⟩
 | true =>
  have HP:=a_ (plant_at A0 c0 l0 w hr0 hc0 ht hG)
  have H0:=a_ (hz ht)
  clear hr0 hc0 ht hG hz
  go_enter Tryd.func37,Tryd.ntmps37
  go_wp2_with (first
   | (go_at_call 60;(with_reducible refine (HP.out).mono ?_);clear HP;rintro en W1 ⟨Fb,A,h,rfl,hat,hb⟩;have HB1:=a_ hb;have HT:=a_ hat;clear hb hat)
   | (go_at_call 61;(with_reducible refine (find_any HT.out.m id).mono ?_);rw [HT.out.lost H0.out,pa_none];rintro en W2 ⟨rfl,rfl⟩))
  go_ret
  exact ⟨_,rfl,Kd.R_nil _ _ _ _ _,HB1.out⟩
theorem treeKids_some (A0:Option Addr) (c0:Nat) (l0:List S37) (id:Int) (w:World) (hr0:Kd.C k37 w A0 l0.length l0) (hc0:l0.length≤c0) (hG:Glob w) (ht:treeB l0=true) (h0:fndF (toFo l0) id≠0) :
  Calls Tryd.prog 37 #[.slice A0 l0.length c0,.int .i64 id] w (KidsPost w ((sub (fndF (toFo l0) id) (toFo l0)).tops.map Int.ofNat)):=by
 have HP:=a_ (plant_at A0 c0 l0 w hr0 hc0 ht hG)
 obtain ⟨i,hi⟩:∃ i,i=fndF (toFo l0) id:=⟨_,rfl⟩
 have hmem:i∈(toFo l0).ids:=by rw [hi];exact (fndF_mem h0).1
 have H0:=a_ h0
 have HI:=a_ hi
 have HM:=a_ hmem
 rw [←hi]
 clear h0 hi hmem hr0 hc0 ht hG
 refine (callsIn_wide (n:=8)).1 ?_
 refine callsIn_of_wp_marks Tryd.func37 rfl trivial ?_ rfl
 simp only [Tryd.ntmps37,List.size_toArray,List.length_cons,List.length_nil,Nat.reduceAdd,Nat.reduceSub,Array.replicate_succ,Array.replicate_zero,List.push_toArray,List.append_toArray,List.nil_append,List.cons_append]
 gi_wp2_with (first
  | (refine ⟨trivial,?_⟩;gi_at_call 60;refine (callsIn_wide.2 HP.out).mono ?_;clear HP;rintro e W1 ⟨Fb,A,h,rfl,hat,hb⟩;have HB1:=a_ hb;have HT:=a_ hat;obtain ⟨b,hb1,hb2⟩:=hat.found H0.out;rw [←HI.out] at hb2;have F1:=a_ hb1;have F2:=a_ hb2;clear hb hat hb1 hb2)
  | (refine ⟨trivial,?_⟩;gi_at_call 61;refine (callsIn_wide.2 (find_any HT.out.m id)).mono ?_;rw [F1.out,pa_some];rintro e W2 ⟨rfl,rfl⟩)
  | (refine ⟨trivial,?_⟩;gi_at_call 77;refine (kids_in Fence.wide _ trivial rfl _ _).mono ?_;rintro e w' ⟨rfl,rfl⟩))
 -- the loop
 have hup:Rep h i (sub i (toFo l0))∧(h i).first=(sub i (toFo l0)).hd:=reptop_sub HT.out.rep HT.out.nd HM.out
 have hsA:∀ x∈(sub i (toFo l0)).ids,A x≠none:=fun x hx=>(HT.out.dom x).2 (sub_ids i hx)
 have hL:=nlist_of HT.out.m hup.1 hsA
 rw [←hup.2] at hL
 obtain ⟨ys,hys⟩:=attach_val (Q:=fun x=>A x≠none) (l:=(sub i (toFo l0)).tops) fun x hx=>hsA x (tops_ids hx)
 have HYS:=a_ hys
 rw [←hys] at hL
 have hlen:ys.length≤36:=by
  have e1:=congrArg List.length hys
  rw [List.length_map] at e1
  have e2:=tops_le (sub i (toFo l0))
  have e3:=(ids_del i (toFo l0) HT.out.nd HM.out).length_eq
  have e4:=HT.out.len
  simp only [List.length_cons,List.length_append] at e3
  omega
 have c3:=HT.out.m.c3 F2.out
 have HBU:=a_ (HT.out.m.lt F2.out)
 have M:=a_ HT.out.m
 clear hup hsA hys
 obtain ⟨w2,hw2⟩:∃ w2,w2=((W2.alloc (.cells #[] 3)).alloc (.cells #[.slice (some ⟨W2.heap.size,0,none⟩) 0 0] 43)).alloc (.cells #[.pointer (some ⟨b,0,none⟩)] 70):=⟨_,rfl⟩
 have bT:=(Boxed.new (W2.alloc (.cells #[] 3)) 43 (.slice (some ⟨W2.heap.size,0,none⟩) 0 0)).alloc (.cells #[.pointer (some ⟨b,0,none⟩)] 70)
 have b2:=cell_new_f ((W2.alloc (.cells #[] 3)).alloc (.cells #[.slice (some ⟨W2.heap.size,0,none⟩) 0 0] 43)) (.pointer (some ⟨b,0,none⟩)) 70
 simp only [World.size_alloc] at bT b2
 have hz2:w2.heap.size=W2.heap.size+3:=by rw [hw2];simp
 have hB2:Below W2.heap.size W2 w2:=by rw [hw2];exact ((((Below.refl _ W2).alloc (Nat.le_refl _) _).alloc (by simp) _).alloc (by simp;omega) _)
 have hR2:Kd.R (Kd.int .i64) 3 w2 W2.heap.size (fun _=>True) (.slice (some ⟨W2.heap.size,0,none⟩) 0 0) (numsOf ([]:List (KA fun x=>A x≠none))):=by
  rw [hw2]
  refine Kd.R_alloc (Kd.R_alloc ⟨fun _ _=>trivial,[],?_,Reps.none _ _⟩ _) _
  have h0:(W2.alloc (.cells #[] 3)).ownsRow W2.heap.size 3 1 (.slice (some ⟨W2.heap.size,0,none⟩) 0 0) 0 []:=by
   simpa using World.ownsRow_lit (base:=W2.heap.size) (e:=3) (size:=1) W2 #[] 0 (Nat.le_refl _) (by simp [maxLen]) (by simp)
  exact h0
 have hc3:w2.cell? ⟨b,3,none⟩=some (.pointer (pa (A (h i).first))):=by rw [hw2];exact cell_alloc_f _ (cell_alloc_f _ (cell_alloc_f _ c3))
 have hcB:w2.cell? ⟨W2.heap.size+1+1,0,none⟩=some (.pointer (some ⟨b,0,none⟩)):=by rw [hw2];exact b2.1
 rw [←hw2] at bT ⊢
 clear hw2 b2 c3
 refine wpIn_rangeFunc_ownF (w0:=w2) rfl (by omega) (gf:=105) (lb:=#[.pointer (some ⟨W2.heap.size+1+1,0,none⟩)]) rfl trivial (enters_of Tryd.func105 (by kernel_rfl) rfl)
  (kids_stops Fence.wide 7 trivial rfl (by omega) (W2.heap.size+1+1) W2.heap.size b _ A _ ys _ (by omega) (by omega) (by have:=HBU.out;omega) hcB hc3 (hL.below hB2)) belowK_t (belowK_b (by omega)) (Below.refl _ _) (fun _=>by rfl)
  (NumsI W2 (W2.heap.size+1)) (fun _ _ _=>False) (numsI_from (by omega)) (fun _ _ _ _ _ h _ _=>h.elim) ⟨⟨_,bT,hR2⟩,hB2⟩
  (fun x=>{ tmps:=#[.slice A0 l0.length c0,.int .i64 id,undef,undef,.slice none 0 0,.pointer (some ⟨Fb,0,none⟩),.bool true,.pointer (some ⟨b,0,none⟩),.pointer (some ⟨W2.heap.size+1,0,none⟩),.pointer (pa (A x.val)),.tuple #[.pointer (some ⟨Fb,0,none⟩),.bool true],.slice A0 l0.length c0,.tuple #[.pointer (some ⟨Fb,0,none⟩),.bool true],.pointer (some ⟨Fb,0,none⟩),.bool true,.bool true,.bool false,.pointer (some ⟨Fb,0,none⟩),.int .i64 id,.pointer (some ⟨b,0,none⟩),.pointer (some ⟨b,0,none⟩),.bool false,.slice (some ⟨W2.heap.size,0,none⟩) 0 0,.pointer (some ⟨b,0,none⟩),.func (.func 105) #[] #[.pointer (some ⟨W2.heap.size+1+1,0,none⟩)],.pointer (pa (A x.val)),undef,undef,undef,undef,undef,undef,undef,undef],defers:=[] }) ?assign ?body ?done ?stop
 case assign =>
  intro l x W K hK
  gi_wp2
  exact hK
 case body =>
  rintro l pre x V ⟨⟨v,hbox,hR⟩,hBw⟩ hlt
  obtain ⟨c,hc⟩:=Option.ne_none_iff_exists'.1 x.ok
  have MV:=M.out.below hBw
  have q0:=MV.c0 hc
  have qb:=hbox.cell
  have qf:=hbox.frozen
  have hlen2:(numsOf pre).length < 60000:=by unfold numsOf;rw [List.length_map];omega
  rw [hc,pa_some]
  refine wpIn_block ?_
  refine startR_ (n:=8) (S:=fun w'=>w'.cell? ⟨W2.heap.size+1,0,none⟩=some v∧w'.cell? ⟨c,0,none⟩=some (.int .i64 (x.val:Int))) (ds:=[6,7]) #[false,false,false,false,false,false,false,false] letsOut_own (noDefer_of (by kernel_rfl)) (by kernel_rfl) rfl rfl ⟨qb,q0⟩ (fun hHeld=>?_)
  clear q0
  refine take_ (i:=0) (N:=some 26) (v:=?_) (a':=?_) #[true,false,false,false,false,false,false,false] rfl rfl (by kernel_rfl) (fun _ _ _ h=>h) (Or.inl ⟨by rfl,?_⟩) hHeld ?_ ?_
  rotate_left
  ·rintro w' ⟨s0,s1⟩
   go_simp
   with_reducible rfl
  rotate_left
  ·simp only [Act.put,List.setIfInBounds_toArray,List.set_cons_zero,List.set_cons_succ,i64_w,i32_w]
   rfl
  refine pure_ (i:=1) (N:=some 27) (v:=?_) (a':=?_) #[true,true,false,false,false,false,false,false] rfl rfl (by kernel_rfl) (fun _ _ _ h=>h) (Or.inl ⟨by rfl,?_⟩) ?_ ?_
  rotate_left
  ·intro w'
   go_simp
   with_reducible rfl
  rotate_left
  ·simp only [Act.put,List.setIfInBounds_toArray,List.set_cons_zero,List.set_cons_succ,i64_w,i32_w]
   rfl
  refine pure_ (i:=2) (N:=some 28) (v:=?_) (a':=?_) #[true,true,true,false,false,false,false,false] rfl rfl (by kernel_rfl) (fun _ _ _ h=>h) (Or.inl ⟨by rfl,?_⟩) ?_ ?_
  rotate_left
  ·intro w'
   go_simp
   with_reducible rfl
  rotate_left
  ·simp only [Act.put,List.setIfInBounds_toArray,List.set_cons_zero,List.set_cons_succ,i64_w,i32_w]
   rfl
  refine pure_ (i:=3) (N:=some 29) (v:=?_) (a':=?_) #[true,true,true,true,false,false,false,false] rfl rfl (by kernel_rfl) (fun _ _ _ h=>h) (Or.inl ⟨by rfl,?_⟩) ?_ ?_
  rotate_left
  ·intro w'
   go_simp
   with_reducible rfl
  rotate_left
  ·simp only [Act.put,List.setIfInBounds_toArray,List.set_cons_zero,List.set_cons_succ,i64_w,i32_w]
   rfl
  refine take_ (i:=4) (N:=some 30) (v:=?_) (a':=?_) #[true,true,true,true,true,false,false,false] rfl rfl (by kernel_rfl) (fun _ _ _ h=>h) (Or.inl ⟨by rfl,?_⟩) hHeld ?_ ?_
  rotate_left
  ·rintro w' ⟨s0,s1⟩
   go_simp
   with_reducible rfl
  rotate_left
  ·simp only [Act.put,List.setIfInBounds_toArray,List.set_cons_zero,List.set_cons_succ,i64_w,i32_w]
   rfl
  refine one_ (i:=5) (N:=some 31) #[true,true,true,true,true,true,false,false] rfl rfl (by kernel_rfl) (by decide) (fun K hK=>?_)
  refine event_step (v:=.slice (some ⟨V.heap.size,0,none⟩) 1 1) (w1:=V.drew.alloc (.cells #[.int .i64 (x.val:Int)] 3)) (by rfl) (by first|(go_simp;done)|(go_simp;rfl)) ?_
  refine hK.out _ _ ⟨cell_alloc_f _ hHeld.1,cell_alloc_f _ hHeld.2⟩ (fun _=>?_)
  clear hK K
  refine no_ 31 ?_
  refine last_ (i:=6) (N:=some 32) #[true,true,true,true,true,true,true,false] rfl rfl (by kernel_rfl) (by decide) (fun K hK=>?_)
  refine step_of_list letsOut_own ?_
  have hBd:Below W2.heap.size W2 V.drew:=hBw.drew
  refine Kd.R_append (Kd.int .i64) (W:=V.drew) (w0:=W2) W2.heap.size rfl (.tmp 26) (.tmp 31) 43 3 (.int .i64 0) 8 rfl Tryd.underlying43 info3 rfl (by decide) (by omega) v (numsOf pre) (x.val:Int) [.int .i64 (x.val:Int)] (fun _=>True) (fun _=>False) rfl rfl rfl (fun _ hk=>hk.elim) (fun _ _=>trivial) (Kd.R_drew hR) hBd hBd.size (by omega) ?_
  intro v1 w3 hR3 hB3 hg3 hat3
  refine hK.out _ _ ?_
  clear hK K
  have hb3:Boxed w3 (W2.heap.size+1) 43 v:=Boxed.kept (W:=V.drew) hbox hg3 (Kd.R_ne hR (show V.heap[W2.heap.size+1]?=some (.cells #[v] 43 (0,0)) from hbox) (by decide))
  obtain ⟨A3,k3,rfl⟩:=Kd.R_slice hR3
  have s1:=hb3.cell
  have s2:=hb3.frozen
  refine no_ 32 ?_
  refine last_ (i:=7) (N:=none) #[true,true,true,true,true,true,true,true] rfl rfl (by kernel_rfl) (by decide) (fun K hK=>?_)
  refine step_skip (w1:=w3.setCell ⟨W2.heap.size+1,0,none⟩ (.slice A3 (numsOf pre++[(x.val:Int)]).length k3)) (by rfl) (by first|(go_simp;done)|(go_simp;rfl)) ?_
  refine hK.out _ _ ?_
  clear hK K
  refine done_ (by kernel_rfl) ?_
  have hro:numsOf (pre++[x])=numsOf pre++[(x.val:Int)]:=by unfold numsOf;rw [List.map_append];rfl
  have hVw:Below W2.heap.size V (w3.setCell ⟨W2.heap.size+1,0,none⟩ (.slice A3 (numsOf pre++[(x.val:Int)]).length k3)):=(((Below.refl W2.heap.size V).drew).grown hg3 hBw.size (fun k e=>Kd.R_base hR k e)).setCell (p:=⟨W2.heap.size+1,0,none⟩) (by simp) _
  refine ⟨keeps_app_i hR hg3 _,hVw,⟨⟨_,hb3.set _,?_⟩,hB3.setCell (p:=⟨W2.heap.size+1,0,none⟩) (by simp) _⟩⟩
  rw [hro]
  exact Kd.R_mono (Kd.R_far (p:=⟨W2.heap.size+1,0,none⟩) (Kd.R_types hR3 hb3 (by decide)) (fun k hk=>hk.2) _) (fun _ _=>trivial)
 case done =>
  rintro D zs V hD rfl ⟨⟨v,hbox,hR⟩,hBw⟩ hK
  have cT:=hbox.cell
  have HR:=a_ hR
  have HB:=a_ hBw
  clear hbox hR hBw
  gi_wp2
  refine ⟨by simp,.inl ⟨_,_,rfl,run_takeDeferred hK,?_⟩⟩
  refine ⟨_,results_tmp rfl _ _ _,_,rfl,?_,HB1.out.trans ((HB.out.trans (belowK_b (w:=W2) (Nat.le_refl _) V D _ _ (by omega) hK rfl rfl)).mono HB1.out.size)⟩
  refine Kd.R_lower ?_ HB1.out.size
  rw [←HYS.out,show (zs.map KA.val).map Int.ofNat=numsOf zs by unfold numsOf;rw [List.map_map];rfl]
  refine Kd.R_mono (Kd.R_step (Kd.R_bound HR.out) fun k hk hlt=>World.putObj_heap_other ?_) (fun _ _=>trivial)
  rintro rfl
  obtain ⟨_,_,_,q,hq,cells,h3⟩:=hk
  rw [h3] at hK
  cases hK
 case stop =>
  rintro D c pre V hD hpre h
  exact h.elim
theorem impl_TreeKids.calls (k:Nat) (A0:Option Addr) (c0:Nat) (l0:List S37) (a1:Int) (r:List Int) (w:World) (hr0:Kd.C k37 w A0 l0.length l0) (hc0:l0.length≤c0) (h:impl_TreeKids.f k l0 a1=some r) (hG:Glob w) :
  Calls Tryd.prog 37 #[.slice A0 l0.length c0,.int .i64 a1] w fun e w'=>∃ v0_:Value,e=.returned v0_∧Kd.R (Kd.int .i64) 3 w' w.heap.size (fun _=>True) v0_ r∧Below w.heap.size w w':=by
 obtain rfl:=sj_ h
 unfold kidsR
 by_cases ht:treeB l0=true
 ·rw [if_pos ht]
  by_cases h0:fndF (toFo l0) a1=0
  ·rw [if_pos h0];exact treeKids_none A0 c0 l0 a1 w hr0 hc0 hG fun _=>h0
  ·rw [if_neg h0];exact treeKids_some A0 c0 l0 a1 w hr0 hc0 hG ht h0
 ·rw [if_neg ht];exact treeKids_none A0 c0 l0 a1 w hr0 hc0 hG fun g=>absurd g ht
end Go.Proofs.YtlkheeegkifblaaDoor.P
namespace Go.Proofs.YtlkheeegkifblaaDoor.P
open Go.RowKit Go.Proofs.YtlkheeegkifblaaDoorW.PrintWords Go.Proofs.YtlkheeegkifblaaDoorW.PrintLast
attribute [local go_sem high] eqA27
def laws_FnKeyIn.j0:Nat→List (S37)→Int→Bool→Bool→Bool→Int→Int→Int→Int→ByteArray→Int→Int→Int→Int→ByteArray→Option (Bool)
 | 0,_,_,_,_,_,_,_,_,_,_,_,_,_,_,_=>none
 | k+1,x3,x4,x6,x8,x48,x408000,x408001,x408002,x408003,x408004,x415000,x415001,x415002,x415003,x415004=>if x48=true then (if (x8==x6)=true then (some (x415000==x408000&&(x415001==x408001&&(x415002==x408002&&(x415003==x408003&&(x415004.toList==x408004.toList)))))) else (none)) else ((impl_TreeAhead.f k x3 x4).bind fun bt416=>(if x8=true then ((impl_OpDo.f k x3 x415000 x415001 x415002 x415003 x415004).bind fun t418=>((impl_TreeUp.f k t418 x4).bind fun bt421=>((impl_TreeKids.f k t418 bt416.1).bind fun t423=>((impl_TreeKids.f k x3 bt416.1).bind fun t426=>((impl_OpOk.f k x415000 x415001 x415002 x415003 x415004).bind fun t429=>(if t429=true then (if bt421.1=bt416.1 then ((if t426.length+1 < 17592186044416 then (laws_lpInts.f k t423 (t426++[x4])) else none).bind fun t430=>(if t430=true then ((laws_lpAt.f k t418 x4).bind fun t431=>(if 0≤t431 then (if t431 < (t418.length:Int) then ((laws_lpAt.f k x3 x4).bind fun t433=>(if 0≤t433 then (if t433 < (x3.length:Int) then (some (((rd_T37 t418 t431).f1)==(wrap64 (((rd_T37 x3 t433).f1)+1)))) else (none)) else (none))) else (none)) else (none))) else (none))) else (none)) else (none))))))) else (if bt416.2=true then (some (bt416.1==0)) else (some true))))
def laws_FnKeyIn.f (k:Nat) (l0:List Int):Option (Bool):=if (l0.length:Int) > 1048576 then (some true) else ((spec_DrawKeyIn.f k l0).bind fun bt397=>((spec_KeyIn.f k bt397.1 bt397.2).bind fun bt401=>((impl_KeyIn.f k bt397.1 bt397.2).bind fun bt408=>(if (bt408.2.2.2.2.2 != bt401.2.2.2.2.2)=true then (none) else (if (!(bt408.1==bt401.1) || (!(bt408.2.1==bt401.2.1) || (!(bt408.2.2.1==bt401.2.2.1) || (!(bt408.2.2.2.1==bt401.2.2.2.1) || (!(bt408.2.2.2.2.1.toList==bt401.2.2.2.2.1.toList))))))=true then (laws_FnKeyIn.j0 k bt397.1 bt397.2 bt401.2.2.2.2.2 bt408.2.2.2.2.2 true bt401.1 bt401.2.1 bt401.2.2.1 bt401.2.2.2.1 bt401.2.2.2.2.1 bt408.1 bt408.2.1 bt408.2.2.1 bt408.2.2.2.1 bt408.2.2.2.2.1) else ((spec_TreeOk.f k bt397.1).bind fun t415=>(laws_FnKeyIn.j0 k bt397.1 bt397.2 bt401.2.2.2.2.2 bt408.2.2.2.2.2 (!t415) bt401.1 bt401.2.1 bt401.2.2.1 bt401.2.2.2.1 bt401.2.2.2.2.1 bt408.1 bt408.2.1 bt408.2.2.1 bt408.2.2.2.1 bt408.2.2.2.2.1)))))))
theorem laws_FnKeyIn.mono_l:∀ k,(∀ y0 y1 y2 y3 y4 y5 y6 y7 y8 y9 y10 y11 y12 y13 y14,LeO (laws_FnKeyIn.j0 k y0 y1 y2 y3 y4 y5 y6 y7 y8 y9 y10 y11 y12 y13 y14) (laws_FnKeyIn.j0 (k+1) y0 y1 y2 y3 y4 y5 y6 y7 y8 y9 y10 y11 y12 y13 y14))
 | 0=>fun _ _ _ _ _ _ _ _ _ _ _ _ _ _ _ r h=>by simp [laws_FnKeyIn.j0] at h
 | k+1=>by
  have ih0:=laws_FnKeyIn.mono_l k
  ·intro y0 y1 y2 y3 y4 y5 y6 y7 y8 y9 y10 y11 y12 y13 y14
   unfold laws_FnKeyIn.j0
   repeat' first
   | (with_reducible exact ih0 _ _ _ _ _ _ _ _ _ _ _ _ _ _ _)
   | (with_reducible exact impl_KeyIn.mono _ _ _)
   | (with_reducible exact impl_OpDo.mono _ _ _ _ _ _ _)
   | (with_reducible exact impl_OpOk.mono _ _ _ _ _ _)
   | (with_reducible exact impl_TreeAhead.mono _ _ _)
   | (with_reducible exact impl_TreeKids.mono _ _ _)
   | (with_reducible exact impl_TreeUp.mono _ _ _)
   | (with_reducible exact laws_lpAt.mono _ _ _)
   | (with_reducible exact laws_lpInts.mono _ _ _)
   | (with_reducible exact spec_DrawKeyIn.mono _ _)
   | (with_reducible exact spec_KeyIn.mono _ _ _)
   | (with_reducible exact spec_TreeOk.mono _ _)
   | (with_reducible exact LeO.refl _)
   | (with_reducible exact LeO.none _)
   | (with_reducible refine LeO.ite ?_ ?_)
   | (with_reducible refine LeO.bind ?_ (fun _=>?_))
theorem laws_FnKeyIn.mono:∀ a0 k,LeO (laws_FnKeyIn.f k a0) (laws_FnKeyIn.f (k+1) a0):=by
 intro a0 k
 have ih0:=laws_FnKeyIn.mono_l k
 unfold laws_FnKeyIn.f
 repeat' first
   | (with_reducible exact ih0 _ _ _ _ _ _ _ _ _ _ _ _ _ _ _)
   | (with_reducible exact impl_KeyIn.mono _ _ _)
   | (with_reducible exact impl_OpDo.mono _ _ _ _ _ _ _)
   | (with_reducible exact impl_OpOk.mono _ _ _ _ _ _)
   | (with_reducible exact impl_TreeAhead.mono _ _ _)
   | (with_reducible exact impl_TreeKids.mono _ _ _)
   | (with_reducible exact impl_TreeUp.mono _ _ _)
   | (with_reducible exact laws_lpAt.mono _ _ _)
   | (with_reducible exact laws_lpInts.mono _ _ _)
   | (with_reducible exact spec_DrawKeyIn.mono _ _)
   | (with_reducible exact spec_KeyIn.mono _ _ _)
   | (with_reducible exact spec_TreeOk.mono _ _)
   | (with_reducible exact LeO.refl _)
   | (with_reducible exact LeO.none _)
   | (with_reducible refine LeO.ite ?_ ?_)
   | (with_reducible refine LeO.bind ?_ (fun _=>?_))
def laws_FnKeyIn.T15:Bool×List (List Nat×List Nat):=(true,[([],[]),([0],[0]),([1,1],[1]),([2],[2]),([2],[2]),([3,4,2],[2,3,4]),([2,5],[2,5]),([6,2],[6]),([7],[7]),([7],[7]),([7],[7]),([9,10,7,7],[7,9,10]),([7],[7]),([12,7],[7,12]),([11,13,11,7],[7,11,13]),([8,14,14,7],[7,8,14]),([7,15],[7,15]),([16,15],[16]),([17],[17]),([17],[17]),([17],[17]),([19,20,17,17],[17,19,20]),([18,21,17],[17,18,21]),([22,17],[17,22]),([23,17],[17,23]),([17],[17]),([17],[17]),([17],[17]),([26,27,21,17],[17,26,27]),([25,28,17],[17,25,28]),([29,17],[17,29]),([30,17],[17,30]),([31,17],[17,31]),([24,32,17],[17,24,32]),([17,33],[17,33]),([34,28,0,1,2,3,4,5,6,7,8,9,10,11,12,13,14,15,16,17,18,19,20,21,22,23,24,25,26,27,28,29,30,31,32,33,34],[34])])
def laws_FnKeyIn.B15:List Nat:=[0,1,3,7,7,31,63,127,255,255,255,1791,255,4351,16127,32767,65535,131071,262143,262143,262143,1835007,4194303,8388607,16777215,262143,262143,262143,205258751,507248639,1044119551,2117861375,4265345023,8589934591,17179869183,34359738367]
theorem laws_FnKeyIn.tab15:rtab .any (opsOf Tryd.f9 15)=laws_FnKeyIn.T15:=by kernel_rfl
theorem laws_FnKeyIn.bits15:waitsOk laws_FnKeyIn.T15.2 laws_FnKeyIn.B15=true:=by kernel_rfl
theorem laws_FnKeyIn.calls (k:Nat) (A0:Option Addr) (c0:Nat) (l0:List Int) (r:Bool) (w:World) (hr0:Kd.C (Kd.int .u8) w A0 l0.length l0) (hc0:l0.length≤c0) (h:laws_FnKeyIn.f k l0=some r) (hG:Glob w) :
  Calls Tryd.prog 9 #[.slice A0 l0.length c0] w fun e w'=>e=.returned (.bool r)∧Below w.heap.size w w':=by
 have hu27:=Tryd.underlying27
 have HR0:=a_ hr0
 have HC0:=a_ hc0
 clear hr0 hc0
 have HB:=a_ (Below.refl w.heap.size w)
 have HG:=a_ hG
 clear hG
 have H:(if (l0.length:Int) > 1048576 then (some true) else ((spec_DrawKeyIn.f k l0).bind fun bt397=>((spec_KeyIn.f k bt397.1 bt397.2).bind fun bt401=>((impl_KeyIn.f k bt397.1 bt397.2).bind fun bt408=>(if (bt408.2.2.2.2.2 != bt401.2.2.2.2.2)=true then (none) else (if (!(bt408.1==bt401.1) || (!(bt408.2.1==bt401.2.1) || (!(bt408.2.2.1==bt401.2.2.1) || (!(bt408.2.2.2.1==bt401.2.2.2.1) || (!(bt408.2.2.2.2.1.toList==bt401.2.2.2.2.1.toList))))))=true then (laws_FnKeyIn.j0 k bt397.1 bt397.2 bt401.2.2.2.2.2 bt408.2.2.2.2.2 true bt401.1 bt401.2.1 bt401.2.2.1 bt401.2.2.2.1 bt401.2.2.2.2.1 bt408.1 bt408.2.1 bt408.2.2.1 bt408.2.2.2.1 bt408.2.2.2.2.1) else ((spec_TreeOk.f k bt397.1).bind fun t415=>(laws_FnKeyIn.j0 k bt397.1 bt397.2 bt401.2.2.2.2.2 bt408.2.2.2.2.2 (!t415) bt401.1 bt401.2.1 bt401.2.2.1 bt401.2.2.2.1 bt401.2.2.2.2.1 bt408.1 bt408.2.1 bt408.2.2.1 bt408.2.2.2.1 bt408.2.2.2.2.1))))))))=some r:=h
 clear h
 by_cases c2:(l0.length:Int) > 1048576
 ·rw [if_pos c2] at H
  have c2b0:decide (1048576 < (l0.length:Int))=true:=dt_ c2
  have c2b1:decide (1048576 < l0.length)=true:=dt_ (by omega)
  clear c2
  obtain rfl:=sj_ H
  go_enter Tryd.func9,Tryd.ntmps9
  go_wp2
  go_ret
  exact ⟨by first|rfl|(simp [errW_none,errW_some] <;> rfl)|(simp [*,errW_none,errW_some] <;> rfl),by repeat (first|(with_reducible first|exact HB.out|apply wA_|apply pw_below_drewN|apply below_drew1)|exact HB.out)⟩
 ·rw [if_neg c2] at H
  have c2b0:decide (1048576 < (l0.length:Int))=false:=df_ c2
  have c2b1:decide (1048576 < l0.length)=false:=df_ (by omega)
  clear c2
  replace H:=bs_ H
  obtain ⟨⟨t397,t398⟩,A30,H⟩:=H
  replace H:((spec_KeyIn.f k t397 t398).bind fun bt401=>((impl_KeyIn.f k t397 t398).bind fun bt408=>(if (bt408.2.2.2.2.2 != bt401.2.2.2.2.2)=true then (none) else (if (!(bt408.1==bt401.1) || (!(bt408.2.1==bt401.2.1) || (!(bt408.2.2.1==bt401.2.2.1) || (!(bt408.2.2.2.1==bt401.2.2.2.1) || (!(bt408.2.2.2.2.1.toList==bt401.2.2.2.2.1.toList))))))=true then (laws_FnKeyIn.j0 k t397 t398 bt401.2.2.2.2.2 bt408.2.2.2.2.2 true bt401.1 bt401.2.1 bt401.2.2.1 bt401.2.2.2.1 bt401.2.2.2.2.1 bt408.1 bt408.2.1 bt408.2.2.1 bt408.2.2.2.1 bt408.2.2.2.2.1) else ((spec_TreeOk.f k t397).bind fun t415=>(laws_FnKeyIn.j0 k t397 t398 bt401.2.2.2.2.2 bt408.2.2.2.2.2 (!t415) bt401.1 bt401.2.1 bt401.2.2.1 bt401.2.2.2.1 bt401.2.2.2.2.1 bt408.1 bt408.2.1 bt408.2.2.1 bt408.2.2.2.1 bt408.2.2.2.2.1))))))=some r:=H
  have A3:=a_ A30
  clear A30
  replace H:=bs_ H
  obtain ⟨⟨t401,t402,t403,t404,t405,t406⟩,A40,H⟩:=H
  replace H:((impl_KeyIn.f k t397 t398).bind fun bt408=>(if (bt408.2.2.2.2.2 != t406)=true then (none) else (if (!(bt408.1==t401) || (!(bt408.2.1==t402) || (!(bt408.2.2.1==t403) || (!(bt408.2.2.2.1==t404) || (!(bt408.2.2.2.2.1.toList==t405.toList))))))=true then (laws_FnKeyIn.j0 k t397 t398 t406 bt408.2.2.2.2.2 true t401 t402 t403 t404 t405 bt408.1 bt408.2.1 bt408.2.2.1 bt408.2.2.2.1 bt408.2.2.2.2.1) else ((spec_TreeOk.f k t397).bind fun t415=>(laws_FnKeyIn.j0 k t397 t398 t406 bt408.2.2.2.2.2 (!t415) t401 t402 t403 t404 t405 bt408.1 bt408.2.1 bt408.2.2.1 bt408.2.2.2.1 bt408.2.2.2.2.1)))))=some r:=H
  have A4:=a_ A40
  clear A40
  replace H:=bs_ H
  obtain ⟨⟨t408,t409,t410,t411,t412,t413⟩,A50,H⟩:=H
  replace H:(if (t413 != t406)=true then (none) else (if (!(t408==t401) || (!(t409==t402) || (!(t410==t403) || (!(t411==t404) || (!(t412.toList==t405.toList))))))=true then (laws_FnKeyIn.j0 k t397 t398 t406 t413 true t401 t402 t403 t404 t405 t408 t409 t410 t411 t412) else ((spec_TreeOk.f k t397).bind fun t415=>(laws_FnKeyIn.j0 k t397 t398 t406 t413 (!t415) t401 t402 t403 t404 t405 t408 t409 t410 t411 t412))))=some r:=H
  have A5:=a_ A50
  clear A50
  have HC6:=a_ H
  clear H
  go_enter Tryd.func9,Tryd.ntmps9
  go_upto_region 6 with (first|((with_reducible refine gC_ (f:=26) rfl ?_);refine goesL_ (some 21) rfl rfl Tryd.func26 (by kernel_rfl) rfl #[.slice A0 l0.length c0] rfl (by (try simp only [List.map_toArray,List.map_cons,List.map_nil]);first|done|rfl|(simp only [List.length_drop,List.length_take];rfl)) ?_;(with_reducible refine (spec_DrawKeyIn.calls k _ _ l0 t397 t398 _ ?side1 ?side2 A3.out).mono ?_);(case side1=>repeat (first|exact HR0.out|(with_reducible refine Kd.C_alloc ?_ _)|(with_reducible refine Kd.C_drewN ?_ _)|(with_reducible refine Kd.C_drew ?_)));(case side2=>exact HC0.out);rintro e w7 ⟨v399,rfl,ho0,hb⟩;refine ⟨_,rfl,?_⟩;have n0_:=a_ (Kd.Q_lower ho0 (below_size (by repeat (first|(with_reducible first|exact HB.out|apply wA_|apply pw_below_drewN|apply below_drew1)|exact HB.out))));have n1_:=a_ (bS_ (by repeat (first|(with_reducible first|exact HB.out|apply wA_|apply pw_below_drewN|apply below_drew1)|exact HB.out)) hb);clear HB;have HO400:=n0_;have HB:=n1_;clear n0_ n1_;(try clear hb);(try clear hb2);(try clear hk);(try clear hi);(try clear ho0);obtain ⟨Ao8,co8,eo8,_⟩:=Kd.Q_slice HO400.out;subst eo8)|((with_reducible refine gC_ (f:=27) rfl ?_);refine goesL_ (some 27) rfl rfl Tryd.func27 (by kernel_rfl) rfl #[.slice Ao8 t397.length co8,.int .i64 t398] rfl (by (try simp only [List.map_toArray,List.map_cons,List.map_nil]);first|done|rfl|(simp only [List.length_drop,List.length_take];rfl)) ?_;(with_reducible refine (spec_KeyIn.calls k _ _ t397 t398 t401 t402 t403 t404 t405 t406 _ ?side1 ?side2 A4.out).mono ?_);(case side1=>repeat (first|exact (Kd.Q_reads' HO400.out).2.2|(with_reducible refine Kd.C_alloc ?_ _)|(with_reducible refine Kd.C_drewN ?_ _)|(with_reducible refine Kd.C_drew ?_)));(case side2=>exact (Kd.Q_reads' HO400.out).2.1);rintro e w9 ⟨rfl,hb⟩;refine ⟨_,rfl,?_⟩;have n0_:=a_ (Kd.Q_below (by (with_reducible repeat (first|apply Kd.Q_alloc|apply Kd.Q_drewN|apply Kd.Q_drew));exact HO400.out) hb);have n1_:=a_ (bS_ (by repeat (first|(with_reducible first|exact HB.out|apply wA_|apply pw_below_drewN|apply below_drew1)|exact HB.out)) hb);clear HO400;clear HB;have HO400:=n0_;have HB:=n1_;clear n0_ n1_;(try clear hb);(try clear hb2);(try clear hk);(try clear hi))|((with_reducible refine gD_ (N:=5) rfl ?_);refine box_event ?hg (N:=5) ?hd (cs:=#[.int .i64 0,.int .i64 0,.int .i64 0,.int .i64 0,.string (⟨#[]⟩:ByteArray)]) (t:=27) ?hr ?_;(case hd=>rfl);(case hg=>rfl);(case hr=>first|(go_simp;done)|(go_simp;rfl));intro gb407 hg w10 hbox hb;have n0_:=a_ (Kd.Q_below (by (with_reducible repeat (first|apply Kd.Q_alloc|apply Kd.Q_drewN|apply Kd.Q_drew));exact HO400.out) hb);have n1_:=a_ (bS_ (by repeat (first|(with_reducible first|exact HB.out|apply wA_|apply pw_below_drewN|apply below_drew1)|exact HB.out)) hb);have n2_:=a_ (hbox);have n3_:=a_ ((by rw [hg];exact (below_size (by repeat (first|(with_reducible first|exact HB.out|apply wA_|apply pw_below_drewN|apply below_drew1)|exact HB.out))):w.heap.size≤gb407));have n4_:=a_ ((by rw [hg];exact (below_size (by repeat (first|(with_reducible first|exact HB.out|apply wA_|apply pw_below_drewN|apply below_drew1)|exact HB.out))):w.heap.size≤gb407));clear HO400;clear HB;have HO400:=n0_;have HB:=n1_;have BK407:=n2_;have GW407:=n3_;have GE407:=n4_;clear n0_ n1_ n2_ n3_ n4_;clear hb hbox hg;have Z11_0:w10.cell? ⟨gb407,0,none⟩=some (.int .i64 0):=(bC_ BK407.out 0).trans rfl;have Z11_1:w10.cell? ⟨gb407,1,none⟩=some (.int .i64 0):=(bC_ BK407.out 1).trans rfl;have Z11_2:w10.cell? ⟨gb407,2,none⟩=some (.int .i64 0):=(bC_ BK407.out 2).trans rfl;have Z11_3:w10.cell? ⟨gb407,3,none⟩=some (.int .i64 0):=(bC_ BK407.out 3).trans rfl;have Z11_4:w10.cell? ⟨gb407,4,none⟩=some (.string (⟨#[]⟩:ByteArray)):=(bC_ BK407.out 4).trans rfl;have Y11_0:=bF_ BK407.out 0;have Y11_1:=bF_ BK407.out 1;have Y11_2:=bF_ BK407.out 2;have Y11_3:=bF_ BK407.out 3;have Y11_4:=bF_ BK407.out 4)|((with_reducible refine gC_ (f:=28) rfl ?_);refine goesL_ (some 33) rfl rfl Tryd.func28 (by kernel_rfl) rfl #[.slice Ao8 t397.length co8,.int .i64 t398] rfl (by (try simp only [List.map_toArray,List.map_cons,List.map_nil]);first|done|rfl|(simp only [List.length_drop,List.length_take];rfl)) ?_;(with_reducible refine (impl_KeyIn.calls k _ _ t397 t398 t408 t409 t410 t411 t412 t413 _ ?side1 ?side2 A5.out ?side3).mono ?_);(case side1=>refine (Kd.Q_reads' (e:=37) (base:=w.heap.size) (ok:=fun k_=>True) (n:=t397.length) (c:=co8) ?_).2.2;exact (by (with_reducible repeat (first|apply Kd.Q_alloc|apply Kd.Q_drewN|apply Kd.Q_drew));exact (Kd.Q_mono (Kd.Q_far (p:=⟨gb407,4,none⟩) (Kd.Q_far (p:=⟨gb407,3,none⟩) (Kd.Q_far (p:=⟨gb407,2,none⟩) (Kd.Q_far (p:=⟨gb407,1,none⟩) (Kd.Q_far (p:=⟨gb407,0,none⟩) (Kd.Q_types HO400.out BK407.out (by decide)) (fun _ hk=>hk.2) (.int .i64 t401)) (fun _ hk=>hk.2) (.int .i64 t402)) (fun _ hk=>hk.2) (.int .i64 t403)) (fun _ hk=>hk.2) (.int .i64 t404)) (fun _ hk=>hk.2) (.string t405)) (fun _ h_=>h_.1))));(case side2=>exact (Kd.Q_reads' HO400.out).2.1);(case side3=>exact Glob.below HG.out (by repeat (first|(with_reducible first|exact HB.out|apply wA_|apply pw_below_drewN|apply below_drew1|refine wS_ ?_ GE407.out)|exact HB.out)));rintro e w12 ⟨rfl,hb⟩;refine ⟨_,rfl,?_⟩;have n0_:=a_ (Kd.Q_below (by (with_reducible repeat (first|apply Kd.Q_alloc|apply Kd.Q_drewN|apply Kd.Q_drew));exact (Kd.Q_mono (Kd.Q_far (p:=⟨gb407,4,none⟩) (Kd.Q_far (p:=⟨gb407,3,none⟩) (Kd.Q_far (p:=⟨gb407,2,none⟩) (Kd.Q_far (p:=⟨gb407,1,none⟩) (Kd.Q_far (p:=⟨gb407,0,none⟩) (Kd.Q_types HO400.out BK407.out (by decide)) (fun _ hk=>hk.2) (.int .i64 t401)) (fun _ hk=>hk.2) (.int .i64 t402)) (fun _ hk=>hk.2) (.int .i64 t403)) (fun _ hk=>hk.2) (.int .i64 t404)) (fun _ hk=>hk.2) (.string t405)) (fun _ h_=>h_.1))) hb);have n1_:=a_ (blk_below (g:=gb407) (o:=.cells #[.int .i64 t401,.int .i64 t402,.int .i64 t403,.int .i64 t404,.string t405] 27 (0,0)) (by (with_reducible repeat (first|refine bN_ ?_ _|refine bD_ ?_|refine bA_ ?_ _));refine blk_put (cs:=#[.int .i64 t401,.int .i64 t402,.int .i64 t403,.int .i64 t404,.string (⟨#[]⟩:ByteArray)]) ?_ 4 _ rfl;(with_reducible repeat (first|refine bN_ ?_ _|refine bD_ ?_|refine bA_ ?_ _));refine blk_put (cs:=#[.int .i64 t401,.int .i64 t402,.int .i64 t403,.int .i64 0,.string (⟨#[]⟩:ByteArray)]) ?_ 3 _ rfl;(with_reducible repeat (first|refine bN_ ?_ _|refine bD_ ?_|refine bA_ ?_ _));refine blk_put (cs:=#[.int .i64 t401,.int .i64 t402,.int .i64 0,.int .i64 0,.string (⟨#[]⟩:ByteArray)]) ?_ 2 _ rfl;(with_reducible repeat (first|refine bN_ ?_ _|refine bD_ ?_|refine bA_ ?_ _));refine blk_put (cs:=#[.int .i64 t401,.int .i64 0,.int .i64 0,.int .i64 0,.string (⟨#[]⟩:ByteArray)]) ?_ 1 _ rfl;(with_reducible repeat (first|refine bN_ ?_ _|refine bD_ ?_|refine bA_ ?_ _));refine blk_put (cs:=#[.int .i64 0,.int .i64 0,.int .i64 0,.int .i64 0,.string (⟨#[]⟩:ByteArray)]) ?_ 0 _ rfl;(with_reducible repeat (first|refine bN_ ?_ _|refine bD_ ?_|refine bA_ ?_ _));exact BK407.out) hb);have n2_:=a_ (bS_ (by repeat (first|(with_reducible first|exact HB.out|apply wA_|apply pw_below_drewN|apply below_drew1|refine wS_ ?_ GE407.out)|exact HB.out)) hb);clear HO400;clear BK407;clear HB;have HO400:=n0_;have BK407:=n1_;have HB:=n2_;clear n0_ n1_ n2_;(try clear hb);(try clear hb2);(try clear hk);(try clear hi))|((with_reducible refine gD_ (N:=7) rfl ?_);refine box_event ?hg (N:=7) ?hd (cs:=#[.int .i64 0,.int .i64 0,.int .i64 0,.int .i64 0,.string (⟨#[]⟩:ByteArray)]) (t:=27) ?hr ?_;(case hd=>rfl);(case hg=>rfl);(case hr=>first|(go_simp;done)|(go_simp;rfl));intro gb414 hg w13 hbox hb;have n0_:=a_ (Kd.Q_below (by (with_reducible repeat (first|apply Kd.Q_alloc|apply Kd.Q_drewN|apply Kd.Q_drew));exact HO400.out) hb);have n1_:=a_ (blk_below (g:=gb407) (o:=.cells #[.int .i64 t401,.int .i64 t402,.int .i64 t403,.int .i64 t404,.string t405] 27 (0,0)) (by (with_reducible repeat (first|refine bN_ ?_ _|refine bD_ ?_|refine bA_ ?_ _));exact BK407.out) hb);have n2_:=a_ (bS_ (by repeat (first|(with_reducible first|exact HB.out|apply wA_|apply pw_below_drewN|apply below_drew1|refine wS_ ?_ GE407.out)|exact HB.out)) hb);have n3_:=a_ (hbox);have n4_:=a_ ((by rw [hg];exact (below_size (by repeat (first|(with_reducible first|exact HB.out|apply wA_|apply pw_below_drewN|apply below_drew1|refine wS_ ?_ GE407.out)|exact HB.out))):w.heap.size≤gb414));have n5_:=a_ ((by rw [hg];exact (below_size (by repeat (first|(with_reducible first|exact HB.out|apply wA_|apply pw_below_drewN|apply below_drew1|refine wS_ ?_ GE407.out)|exact HB.out))):w.heap.size≤gb414));have n6_:=a_ ((by rw [hg];exact Nat.ne_of_lt (blk_lt (g:=gb407) (o:=.cells #[.int .i64 t401,.int .i64 t402,.int .i64 t403,.int .i64 t404,.string t405] 27 (0,0)) (by (with_reducible repeat (first|refine bN_ ?_ _|refine bD_ ?_|refine bA_ ?_ _));exact BK407.out)):gb407≠gb414));have n7_:=a_ ((by rw [hg];exact Nat.ne_of_gt (blk_lt (g:=gb407) (o:=.cells #[.int .i64 t401,.int .i64 t402,.int .i64 t403,.int .i64 t404,.string t405] 27 (0,0)) (by (with_reducible repeat (first|refine bN_ ?_ _|refine bD_ ?_|refine bA_ ?_ _));exact BK407.out)):gb414≠gb407));clear HO400;clear BK407;clear HB;have HO400:=n0_;have BK407:=n1_;have HB:=n2_;have BK414:=n3_;have GW414:=n4_;have GE414:=n5_;have NB407_414:=n6_;have NB414_407:=n7_;clear n0_ n1_ n2_ n3_ n4_ n5_ n6_ n7_;clear hb hbox hg;have hnb14:=NB414_407.out;have hnc14:=NB407_414.out;have Z15_0:w13.cell? ⟨gb414,0,none⟩=some (.int .i64 0):=(bC_ BK414.out 0).trans rfl;have Z15_1:w13.cell? ⟨gb414,1,none⟩=some (.int .i64 0):=(bC_ BK414.out 1).trans rfl;have Z15_2:w13.cell? ⟨gb414,2,none⟩=some (.int .i64 0):=(bC_ BK414.out 2).trans rfl;have Z15_3:w13.cell? ⟨gb414,3,none⟩=some (.int .i64 0):=(bC_ BK414.out 3).trans rfl;have Z15_4:w13.cell? ⟨gb414,4,none⟩=some (.string (⟨#[]⟩:ByteArray)):=(bC_ BK414.out 4).trans rfl;have Y15_0:=bF_ BK414.out 0;have Y15_1:=bF_ BK414.out 1;have Y15_2:=bF_ BK414.out 2;have Y15_3:=bF_ BK414.out 3;have Y15_4:=bF_ BK414.out 4))
  (try simp only [Act.put,List.setIfInBounds_toArray,List.set_cons_zero,List.set_cons_succ])
  go_cut [48] (fun v48 wc=>∃ (kq:Nat) (x48_5:Bool),v48=.bool x48_5∧Aside0 (laws_FnKeyIn.j0 kq t397 t398 t406 t413 x48_5 t401 t402 t403 t404 t405 t408 t409 t410 t411 t412=some r)∧Aside0 (kq≤k)∧Aside0 (Kd.Q k37 37 wc w.heap.size (fun _=>True) (.slice Ao8 t397.length co8) t397)∧Aside0 (wc.heap[gb407]?=some (.cells #[.int .i64 t401,.int .i64 t402,.int .i64 t403,.int .i64 t404,.string t405] 27 (0,0)))∧Aside0 (wc.heap[gb414]?=some (.cells #[.int .i64 t408,.int .i64 t409,.int .i64 t410,.int .i64 t411,.string t412] 27 (0,0)))∧Aside0 (Below w.heap.size w wc))
  case first =>
   have H:=HC6.out
   clear HC6
   by_cases c16:(t413 != t406)=true
   ·rw [if_pos c16] at H
    exact absurd H (by simp)
   ·rw [if_neg c16] at H
    have c16b0:(t413 != t406)=false:=by simpa using c16
    (try (have c16b1:decide (t413=t406)=true:=by simpa using c16))
    (try (have c16b2:(t413==t406)=true:=by simpa using c16))
    clear c16
    (first|rw [c16b0]|(simp only [i64_w,i32_w];rw [c16b0])|skip)
    by_cases c17:(!(t408==t401) || (!(t409==t402) || (!(t410==t403) || (!(t411==t404) || (!(t412.toList==t405.toList))))))=true
    ·rw [if_pos c17] at H
     have c17b0:(!(t408==t401) || (!(t409==t402) || (!(t410==t403) || (!(t411==t404) || (!(t412.toList==t405.toList))))))=true:=c17
     clear c17
     have H':=a_ H
     clear H
     have hnb18:=NB414_407.out
     have hnc18:=NB407_414.out
     have Z19_0:w13.cell? ⟨gb414,0,none⟩=some (.int .i64 0):=(bC_ BK414.out 0).trans rfl
     have Z19_1:w13.cell? ⟨gb414,1,none⟩=some (.int .i64 0):=(bC_ BK414.out 1).trans rfl
     have Z19_2:w13.cell? ⟨gb414,2,none⟩=some (.int .i64 0):=(bC_ BK414.out 2).trans rfl
     have Z19_3:w13.cell? ⟨gb414,3,none⟩=some (.int .i64 0):=(bC_ BK414.out 3).trans rfl
     have Z19_4:w13.cell? ⟨gb414,4,none⟩=some (.string (⟨#[]⟩:ByteArray)):=(bC_ BK414.out 4).trans rfl
     have Y19_0:=bF_ BK414.out 0
     have Y19_1:=bF_ BK414.out 1
     have Y19_2:=bF_ BK414.out 2
     have Y19_3:=bF_ BK414.out 3
     have Y19_4:=bF_ BK414.out 4
     have Z20_0:w13.cell? ⟨gb407,0,none⟩=some (.int .i64 t401):=(bC_ BK407.out 0).trans rfl
     have Z20_1:w13.cell? ⟨gb407,1,none⟩=some (.int .i64 t402):=(bC_ BK407.out 1).trans rfl
     have Z20_2:w13.cell? ⟨gb407,2,none⟩=some (.int .i64 t403):=(bC_ BK407.out 2).trans rfl
     have Z20_3:w13.cell? ⟨gb407,3,none⟩=some (.int .i64 t404):=(bC_ BK407.out 3).trans rfl
     have Z20_4:w13.cell? ⟨gb407,4,none⟩=some (.string t405):=(bC_ BK407.out 4).trans rfl
     have Y20_0:=bF_ BK407.out 0
     have Y20_1:=bF_ BK407.out 1
     have Y20_2:=bF_ BK407.out 2
     have Y20_3:=bF_ BK407.out 3
     have Y20_4:=bF_ BK407.out 4
     go_wp2
     go_meet
     case rel=>exact ⟨_,(true),(by first|rfl|(simp;done)|(simp [*];done)),H',⟨by first|omega|exact Nat.le_refl _⟩,⟨by (with_reducible repeat (first|apply Kd.Q_alloc|apply Kd.Q_drewN|apply Kd.Q_drew));exact Kd.Q_mono (Kd.Q_far (p:=⟨gb414,4,none⟩) (Kd.Q_far (p:=⟨gb414,3,none⟩) (Kd.Q_far (p:=⟨gb414,2,none⟩) (Kd.Q_far (p:=⟨gb414,1,none⟩) (Kd.Q_far (p:=⟨gb414,0,none⟩) (Kd.Q_types HO400.out BK414.out (by decide)) (fun _ hk=>hk.2) (.int .i64 t408)) (fun _ hk=>hk.2) (.int .i64 t409)) (fun _ hk=>hk.2) (.int .i64 t410)) (fun _ hk=>hk.2) (.int .i64 t411)) (fun _ hk=>hk.2) (.string t412)) (fun _ hk=>trivial)⟩,⟨by (with_reducible repeat (first|refine bN_ ?_ _|refine bD_ ?_|refine bA_ ?_ _));refine blk_far ?_ NB407_414.out _;(with_reducible repeat (first|refine bN_ ?_ _|refine bD_ ?_|refine bA_ ?_ _));refine blk_far ?_ NB407_414.out _;(with_reducible repeat (first|refine bN_ ?_ _|refine bD_ ?_|refine bA_ ?_ _));refine blk_far ?_ NB407_414.out _;(with_reducible repeat (first|refine bN_ ?_ _|refine bD_ ?_|refine bA_ ?_ _));refine blk_far ?_ NB407_414.out _;(with_reducible repeat (first|refine bN_ ?_ _|refine bD_ ?_|refine bA_ ?_ _));refine blk_far ?_ NB407_414.out _;(with_reducible repeat (first|refine bN_ ?_ _|refine bD_ ?_|refine bA_ ?_ _));exact BK407.out⟩,⟨by (with_reducible repeat (first|refine bN_ ?_ _|refine bD_ ?_|refine bA_ ?_ _));refine blk_put (cs:=#[.int .i64 t408,.int .i64 t409,.int .i64 t410,.int .i64 t411,.string (⟨#[]⟩:ByteArray)]) ?_ 4 _ rfl;(with_reducible repeat (first|refine bN_ ?_ _|refine bD_ ?_|refine bA_ ?_ _));refine blk_put (cs:=#[.int .i64 t408,.int .i64 t409,.int .i64 t410,.int .i64 0,.string (⟨#[]⟩:ByteArray)]) ?_ 3 _ rfl;(with_reducible repeat (first|refine bN_ ?_ _|refine bD_ ?_|refine bA_ ?_ _));refine blk_put (cs:=#[.int .i64 t408,.int .i64 t409,.int .i64 0,.int .i64 0,.string (⟨#[]⟩:ByteArray)]) ?_ 2 _ rfl;(with_reducible repeat (first|refine bN_ ?_ _|refine bD_ ?_|refine bA_ ?_ _));refine blk_put (cs:=#[.int .i64 t408,.int .i64 0,.int .i64 0,.int .i64 0,.string (⟨#[]⟩:ByteArray)]) ?_ 1 _ rfl;(with_reducible repeat (first|refine bN_ ?_ _|refine bD_ ?_|refine bA_ ?_ _));refine blk_put (cs:=#[.int .i64 0,.int .i64 0,.int .i64 0,.int .i64 0,.string (⟨#[]⟩:ByteArray)]) ?_ 0 _ rfl;(with_reducible repeat (first|refine bN_ ?_ _|refine bD_ ?_|refine bA_ ?_ _));exact BK414.out⟩,⟨by repeat (first|(with_reducible first|exact HB.out|apply wA_|apply pw_below_drewN|apply below_drew1|refine wS_ ?_ GE407.out|refine wS_ ?_ GE414.out)|exact HB.out)⟩⟩
    ·rw [if_neg c17] at H
     have c17b0:(!(t408==t401) || (!(t409==t402) || (!(t410==t403) || (!(t411==t404) || (!(t412.toList==t405.toList))))))=false:=by simpa using c17
     clear c17
     replace H:=bs_ H
     obtain ⟨t415,A210,H⟩:=H
     replace H:(laws_FnKeyIn.j0 k t397 t398 t406 t413 (!t415) t401 t402 t403 t404 t405 t408 t409 t410 t411 t412)=some r:=H
     have A21:=a_ A210
     clear A210
     have H':=a_ H
     clear H
     have hnb22:=NB414_407.out
     have hnc22:=NB407_414.out
     have Z23_0:w13.cell? ⟨gb414,0,none⟩=some (.int .i64 0):=(bC_ BK414.out 0).trans rfl
     have Z23_1:w13.cell? ⟨gb414,1,none⟩=some (.int .i64 0):=(bC_ BK414.out 1).trans rfl
     have Z23_2:w13.cell? ⟨gb414,2,none⟩=some (.int .i64 0):=(bC_ BK414.out 2).trans rfl
     have Z23_3:w13.cell? ⟨gb414,3,none⟩=some (.int .i64 0):=(bC_ BK414.out 3).trans rfl
     have Z23_4:w13.cell? ⟨gb414,4,none⟩=some (.string (⟨#[]⟩:ByteArray)):=(bC_ BK414.out 4).trans rfl
     have Y23_0:=bF_ BK414.out 0
     have Y23_1:=bF_ BK414.out 1
     have Y23_2:=bF_ BK414.out 2
     have Y23_3:=bF_ BK414.out 3
     have Y23_4:=bF_ BK414.out 4
     have Z24_0:w13.cell? ⟨gb407,0,none⟩=some (.int .i64 t401):=(bC_ BK407.out 0).trans rfl
     have Z24_1:w13.cell? ⟨gb407,1,none⟩=some (.int .i64 t402):=(bC_ BK407.out 1).trans rfl
     have Z24_2:w13.cell? ⟨gb407,2,none⟩=some (.int .i64 t403):=(bC_ BK407.out 2).trans rfl
     have Z24_3:w13.cell? ⟨gb407,3,none⟩=some (.int .i64 t404):=(bC_ BK407.out 3).trans rfl
     have Z24_4:w13.cell? ⟨gb407,4,none⟩=some (.string t405):=(bC_ BK407.out 4).trans rfl
     have Y24_0:=bF_ BK407.out 0
     have Y24_1:=bF_ BK407.out 1
     have Y24_2:=bF_ BK407.out 2
     have Y24_3:=bF_ BK407.out 3
     have Y24_4:=bF_ BK407.out 4
     go_wp2_with (first|(go_at_call 19;(with_reducible refine (spec_TreeOk.calls k _ _ t397 t415 _ ?side1 ?side2 A21.out).mono ?_);(case side1=>refine (Kd.Q_reads' (e:=37) (base:=w.heap.size) (ok:=fun k_=>True) (n:=t397.length) (c:=co8) ?_).2.2;exact (by (with_reducible repeat (first|apply Kd.Q_alloc|apply Kd.Q_drewN|apply Kd.Q_drew));exact (Kd.Q_mono (Kd.Q_far (p:=⟨gb414,4,none⟩) (Kd.Q_far (p:=⟨gb414,3,none⟩) (Kd.Q_far (p:=⟨gb414,2,none⟩) (Kd.Q_far (p:=⟨gb414,1,none⟩) (Kd.Q_far (p:=⟨gb414,0,none⟩) (Kd.Q_types HO400.out BK414.out (by decide)) (fun _ hk=>hk.2) (.int .i64 t408)) (fun _ hk=>hk.2) (.int .i64 t409)) (fun _ hk=>hk.2) (.int .i64 t410)) (fun _ hk=>hk.2) (.int .i64 t411)) (fun _ hk=>hk.2) (.string t412)) (fun _ h_=>h_.1))));(case side2=>exact (Kd.Q_reads' HO400.out).2.1);rintro e w25 ⟨rfl,hb⟩;have n0_:=a_ (Kd.Q_below (by (with_reducible repeat (first|apply Kd.Q_alloc|apply Kd.Q_drewN|apply Kd.Q_drew));exact (Kd.Q_mono (Kd.Q_far (p:=⟨gb414,4,none⟩) (Kd.Q_far (p:=⟨gb414,3,none⟩) (Kd.Q_far (p:=⟨gb414,2,none⟩) (Kd.Q_far (p:=⟨gb414,1,none⟩) (Kd.Q_far (p:=⟨gb414,0,none⟩) (Kd.Q_types HO400.out BK414.out (by decide)) (fun _ hk=>hk.2) (.int .i64 t408)) (fun _ hk=>hk.2) (.int .i64 t409)) (fun _ hk=>hk.2) (.int .i64 t410)) (fun _ hk=>hk.2) (.int .i64 t411)) (fun _ hk=>hk.2) (.string t412)) (fun _ h_=>h_.1))) hb);have n1_:=a_ (blk_below (g:=gb407) (o:=.cells #[.int .i64 t401,.int .i64 t402,.int .i64 t403,.int .i64 t404,.string t405] 27 (0,0)) (by (with_reducible repeat (first|refine bN_ ?_ _|refine bD_ ?_|refine bA_ ?_ _));refine blk_far ?_ NB407_414.out _;(with_reducible repeat (first|refine bN_ ?_ _|refine bD_ ?_|refine bA_ ?_ _));refine blk_far ?_ NB407_414.out _;(with_reducible repeat (first|refine bN_ ?_ _|refine bD_ ?_|refine bA_ ?_ _));refine blk_far ?_ NB407_414.out _;(with_reducible repeat (first|refine bN_ ?_ _|refine bD_ ?_|refine bA_ ?_ _));refine blk_far ?_ NB407_414.out _;(with_reducible repeat (first|refine bN_ ?_ _|refine bD_ ?_|refine bA_ ?_ _));refine blk_far ?_ NB407_414.out _;(with_reducible repeat (first|refine bN_ ?_ _|refine bD_ ?_|refine bA_ ?_ _));exact BK407.out) hb);have n2_:=a_ (blk_below (g:=gb414) (o:=.cells #[.int .i64 t408,.int .i64 t409,.int .i64 t410,.int .i64 t411,.string t412] 27 (0,0)) (by (with_reducible repeat (first|refine bN_ ?_ _|refine bD_ ?_|refine bA_ ?_ _));refine blk_put (cs:=#[.int .i64 t408,.int .i64 t409,.int .i64 t410,.int .i64 t411,.string (⟨#[]⟩:ByteArray)]) ?_ 4 _ rfl;(with_reducible repeat (first|refine bN_ ?_ _|refine bD_ ?_|refine bA_ ?_ _));refine blk_put (cs:=#[.int .i64 t408,.int .i64 t409,.int .i64 t410,.int .i64 0,.string (⟨#[]⟩:ByteArray)]) ?_ 3 _ rfl;(with_reducible repeat (first|refine bN_ ?_ _|refine bD_ ?_|refine bA_ ?_ _));refine blk_put (cs:=#[.int .i64 t408,.int .i64 t409,.int .i64 0,.int .i64 0,.string (⟨#[]⟩:ByteArray)]) ?_ 2 _ rfl;(with_reducible repeat (first|refine bN_ ?_ _|refine bD_ ?_|refine bA_ ?_ _));refine blk_put (cs:=#[.int .i64 t408,.int .i64 0,.int .i64 0,.int .i64 0,.string (⟨#[]⟩:ByteArray)]) ?_ 1 _ rfl;(with_reducible repeat (first|refine bN_ ?_ _|refine bD_ ?_|refine bA_ ?_ _));refine blk_put (cs:=#[.int .i64 0,.int .i64 0,.int .i64 0,.int .i64 0,.string (⟨#[]⟩:ByteArray)]) ?_ 0 _ rfl;(with_reducible repeat (first|refine bN_ ?_ _|refine bD_ ?_|refine bA_ ?_ _));exact BK414.out) hb);have n3_:=a_ (bS_ (by repeat (first|(with_reducible first|exact HB.out|apply wA_|apply pw_below_drewN|apply below_drew1|refine wS_ ?_ GE407.out|refine wS_ ?_ GE414.out)|exact HB.out)) hb);clear HO400;clear BK407;clear BK414;clear HB;have HO400:=n0_;have BK407:=n1_;have BK414:=n2_;have HB:=n3_;clear n0_ n1_ n2_ n3_;(try clear hb);(try clear hb2);(try clear hk);(try clear hi)))
     go_meet
     case rel=>exact ⟨_,(!t415),(by first|rfl|(simp;done)|(simp [*];done)),H',⟨by first|omega|exact Nat.le_refl _⟩,⟨by (with_reducible repeat (first|apply Kd.Q_alloc|apply Kd.Q_drewN|apply Kd.Q_drew));exact HO400.out⟩,⟨by (with_reducible repeat (first|refine bN_ ?_ _|refine bD_ ?_|refine bA_ ?_ _));exact BK407.out⟩,⟨by (with_reducible repeat (first|refine bN_ ?_ _|refine bD_ ?_|refine bA_ ?_ _));exact BK414.out⟩,⟨by repeat (first|(with_reducible first|exact HB.out|apply wA_|apply pw_below_drewN|apply below_drew1|refine wS_ ?_ GE407.out|refine wS_ ?_ GE414.out)|exact HB.out)⟩⟩
  case rest =>
   clear HC6
   try clear c1
   try clear c2
   try clear c2b0
   try clear c2b1
   try clear p2
   try clear c9
   try clear c14
   try clear c16
   try clear c16b0
   try clear c16b1
   try clear c16b2
   try clear c17
   try clear c17b0
   try clear c18
   try clear c22
   try clear Z11_0
   try clear Z11_1
   try clear Z11_2
   try clear Z11_3
   try clear Z11_4
   try clear Z15_0
   try clear Z15_1
   try clear Z15_2
   try clear Z15_3
   try clear Z15_4
   try clear Z19_0
   try clear Z19_1
   try clear Z19_2
   try clear Z19_3
   try clear Z19_4
   try clear Z20_0
   try clear Z20_1
   try clear Z20_2
   try clear Z20_3
   try clear Z20_4
   try clear Z23_0
   try clear Z23_1
   try clear Z23_2
   try clear Z23_3
   try clear Z23_4
   try clear Z24_0
   try clear Z24_1
   try clear Z24_2
   try clear Z24_3
   try clear Z24_4
   try clear Y11_0
   try clear Y11_1
   try clear Y11_2
   try clear Y11_3
   try clear Y11_4
   try clear Y15_0
   try clear Y15_1
   try clear Y15_2
   try clear Y15_3
   try clear Y15_4
   try clear Y19_0
   try clear Y19_1
   try clear Y19_2
   try clear Y19_3
   try clear Y19_4
   try clear Y20_0
   try clear Y20_1
   try clear Y20_2
   try clear Y20_3
   try clear Y20_4
   try clear Y23_0
   try clear Y23_1
   try clear Y23_2
   try clear Y23_3
   try clear Y23_4
   try clear Y24_0
   try clear Y24_1
   try clear Y24_2
   try clear Y24_3
   try clear Y24_4
   obtain ⟨kq,x48_5,rfl,HA,HJ5,HO_3,BK407,BK414,HB⟩:=hcut
   cases kq with
   | zero=>exact absurd HA.out (by simp [laws_FnKeyIn.j0])
   | succ kj5 =>
    have H:=HA.out
    clear HA
    simp only [laws_FnKeyIn.j0] at H
    by_cases c26:x48_5=true
    ·subst c26
     have H1:(if (t413==t406)=true then (some (t408==t401&&(t409==t402&&(t410==t403&&(t411==t404&&(t412.toList==t405.toList)))))) else (none))=some r:=by rw [if_pos rfl] at H;exact H
     clear H
     have H:=H1
     clear H1
     by_cases c27:(t413==t406)=true
     ·rw [if_pos c27] at H
      have c27b0:(t413==t406)=true:=c27
      (try (have c27b1:decide (t413=t406)=true:=by simpa using c27))
      (try (have c27b2:(t413==t406)=true:=by simpa using c27))
      clear c27
      obtain rfl:=sj_ H
      have hnb28:=NB414_407.out
      have hnc28:=NB407_414.out
      have Z29_0:wc.cell? ⟨gb414,0,none⟩=some (.int .i64 t408):=(bC_ BK414.out 0).trans rfl
      have Z29_1:wc.cell? ⟨gb414,1,none⟩=some (.int .i64 t409):=(bC_ BK414.out 1).trans rfl
      have Z29_2:wc.cell? ⟨gb414,2,none⟩=some (.int .i64 t410):=(bC_ BK414.out 2).trans rfl
      have Z29_3:wc.cell? ⟨gb414,3,none⟩=some (.int .i64 t411):=(bC_ BK414.out 3).trans rfl
      have Z29_4:wc.cell? ⟨gb414,4,none⟩=some (.string t412):=(bC_ BK414.out 4).trans rfl
      have Y29_0:=bF_ BK414.out 0
      have Y29_1:=bF_ BK414.out 1
      have Y29_2:=bF_ BK414.out 2
      have Y29_3:=bF_ BK414.out 3
      have Y29_4:=bF_ BK414.out 4
      have Z30_0:wc.cell? ⟨gb407,0,none⟩=some (.int .i64 t401):=(bC_ BK407.out 0).trans rfl
      have Z30_1:wc.cell? ⟨gb407,1,none⟩=some (.int .i64 t402):=(bC_ BK407.out 1).trans rfl
      have Z30_2:wc.cell? ⟨gb407,2,none⟩=some (.int .i64 t403):=(bC_ BK407.out 2).trans rfl
      have Z30_3:wc.cell? ⟨gb407,3,none⟩=some (.int .i64 t404):=(bC_ BK407.out 3).trans rfl
      have Z30_4:wc.cell? ⟨gb407,4,none⟩=some (.string t405):=(bC_ BK407.out 4).trans rfl
      have Y30_0:=bF_ BK407.out 0
      have Y30_1:=bF_ BK407.out 1
      have Y30_2:=bF_ BK407.out 2
      have Y30_3:=bF_ BK407.out 3
      have Y30_4:=bF_ BK407.out 4
      go_wp2
      go_ret
      exact ⟨by first|rfl|(simp [errW_none,errW_some] <;> rfl)|(simp [*,errW_none,errW_some] <;> rfl),by repeat (first|(with_reducible first|exact HB.out|apply wA_|apply pw_below_drewN|apply below_drew1|refine wS_ ?_ GE407.out|refine wS_ ?_ GE414.out)|exact HB.out)⟩
     ·rw [if_neg c27] at H
      exact absurd H (by simp)
    ·replace c26:=Bool.eq_false_iff.mpr c26
     subst c26
     have H1:((impl_TreeAhead.f kj5 t397 t398).bind fun bt416=>(if t413=true then ((impl_OpDo.f kj5 t397 t408 t409 t410 t411 t412).bind fun t418=>((impl_TreeUp.f kj5 t418 t398).bind fun bt421=>((impl_TreeKids.f kj5 t418 bt416.1).bind fun t423=>((impl_TreeKids.f kj5 t397 bt416.1).bind fun t426=>((impl_OpOk.f kj5 t408 t409 t410 t411 t412).bind fun t429=>(if t429=true then (if bt421.1=bt416.1 then ((if t426.length+1 < 17592186044416 then (laws_lpInts.f kj5 t423 (t426++[t398])) else none).bind fun t430=>(if t430=true then ((laws_lpAt.f kj5 t418 t398).bind fun t431=>(if 0≤t431 then (if t431 < (t418.length:Int) then ((laws_lpAt.f kj5 t397 t398).bind fun t433=>(if 0≤t433 then (if t433 < (t397.length:Int) then (some (((rd_T37 t418 t431).f1)==(wrap64 (((rd_T37 t397 t433).f1)+1)))) else (none)) else (none))) else (none)) else (none))) else (none))) else (none)) else (none))))))) else (if bt416.2=true then (some (bt416.1==0)) else (some true))))=some r:=by rw [if_neg (show ¬ (false=true) by decide)] at H;exact H
     clear H
     have H:=H1
     clear H1
     replace H:=bs_ H
     obtain ⟨⟨t416,t417⟩,A310,H⟩:=H
     replace H:(if t413=true then ((impl_OpDo.f kj5 t397 t408 t409 t410 t411 t412).bind fun t418=>((impl_TreeUp.f kj5 t418 t398).bind fun bt421=>((impl_TreeKids.f kj5 t418 t416).bind fun t423=>((impl_TreeKids.f kj5 t397 t416).bind fun t426=>((impl_OpOk.f kj5 t408 t409 t410 t411 t412).bind fun t429=>(if t429=true then (if bt421.1=t416 then ((if t426.length+1 < 17592186044416 then (laws_lpInts.f kj5 t423 (t426++[t398])) else none).bind fun t430=>(if t430=true then ((laws_lpAt.f kj5 t418 t398).bind fun t431=>(if 0≤t431 then (if t431 < (t418.length:Int) then ((laws_lpAt.f kj5 t397 t398).bind fun t433=>(if 0≤t433 then (if t433 < (t397.length:Int) then (some (((rd_T37 t418 t431).f1)==(wrap64 (((rd_T37 t397 t433).f1)+1)))) else (none)) else (none))) else (none)) else (none))) else (none))) else (none)) else (none))))))) else (if t417=true then (some (t416==0)) else (some true)))=some r:=H
     have A31:=a_ A310
     clear A310
     by_cases c32:t413=true
     ·subst c32
      have H1:((impl_OpDo.f kj5 t397 t408 t409 t410 t411 t412).bind fun t418=>((impl_TreeUp.f kj5 t418 t398).bind fun bt421=>((impl_TreeKids.f kj5 t418 t416).bind fun t423=>((impl_TreeKids.f kj5 t397 t416).bind fun t426=>((impl_OpOk.f kj5 t408 t409 t410 t411 t412).bind fun t429=>(if t429=true then (if bt421.1=t416 then ((if t426.length+1 < 17592186044416 then (laws_lpInts.f kj5 t423 (t426++[t398])) else none).bind fun t430=>(if t430=true then ((laws_lpAt.f kj5 t418 t398).bind fun t431=>(if 0≤t431 then (if t431 < (t418.length:Int) then ((laws_lpAt.f kj5 t397 t398).bind fun t433=>(if 0≤t433 then (if t433 < (t397.length:Int) then (some (((rd_T37 t418 t431).f1)==(wrap64 (((rd_T37 t397 t433).f1)+1)))) else (none)) else (none))) else (none)) else (none))) else (none))) else (none)) else (none)))))))=some r:=by rw [if_pos rfl] at H;exact H
      clear H
      have H:=H1
      clear H1
      replace H:=bs_ H
      obtain ⟨t418,A330,H⟩:=H
      replace H:((impl_TreeUp.f kj5 t418 t398).bind fun bt421=>((impl_TreeKids.f kj5 t418 t416).bind fun t423=>((impl_TreeKids.f kj5 t397 t416).bind fun t426=>((impl_OpOk.f kj5 t408 t409 t410 t411 t412).bind fun t429=>(if t429=true then (if bt421.1=t416 then ((if t426.length+1 < 17592186044416 then (laws_lpInts.f kj5 t423 (t426++[t398])) else none).bind fun t430=>(if t430=true then ((laws_lpAt.f kj5 t418 t398).bind fun t431=>(if 0≤t431 then (if t431 < (t418.length:Int) then ((laws_lpAt.f kj5 t397 t398).bind fun t433=>(if 0≤t433 then (if t433 < (t397.length:Int) then (some (((rd_T37 t418 t431).f1)==(wrap64 (((rd_T37 t397 t433).f1)+1)))) else (none)) else (none))) else (none)) else (none))) else (none))) else (none)) else (none))))))=some r:=H
      have A33:=a_ A330
      clear A330
      replace H:=bs_ H
      obtain ⟨⟨t421,t422⟩,A340,H⟩:=H
      replace H:((impl_TreeKids.f kj5 t418 t416).bind fun t423=>((impl_TreeKids.f kj5 t397 t416).bind fun t426=>((impl_OpOk.f kj5 t408 t409 t410 t411 t412).bind fun t429=>(if t429=true then (if t421=t416 then ((if t426.length+1 < 17592186044416 then (laws_lpInts.f kj5 t423 (t426++[t398])) else none).bind fun t430=>(if t430=true then ((laws_lpAt.f kj5 t418 t398).bind fun t431=>(if 0≤t431 then (if t431 < (t418.length:Int) then ((laws_lpAt.f kj5 t397 t398).bind fun t433=>(if 0≤t433 then (if t433 < (t397.length:Int) then (some (((rd_T37 t418 t431).f1)==(wrap64 (((rd_T37 t397 t433).f1)+1)))) else (none)) else (none))) else (none)) else (none))) else (none))) else (none)) else (none)))))=some r:=H
      have A34:=a_ A340
      clear A340
      replace H:=bs_ H
      obtain ⟨t423,A350,H⟩:=H
      replace H:((impl_TreeKids.f kj5 t397 t416).bind fun t426=>((impl_OpOk.f kj5 t408 t409 t410 t411 t412).bind fun t429=>(if t429=true then (if t421=t416 then ((if t426.length+1 < 17592186044416 then (laws_lpInts.f kj5 t423 (t426++[t398])) else none).bind fun t430=>(if t430=true then ((laws_lpAt.f kj5 t418 t398).bind fun t431=>(if 0≤t431 then (if t431 < (t418.length:Int) then ((laws_lpAt.f kj5 t397 t398).bind fun t433=>(if 0≤t433 then (if t433 < (t397.length:Int) then (some (((rd_T37 t418 t431).f1)==(wrap64 (((rd_T37 t397 t433).f1)+1)))) else (none)) else (none))) else (none)) else (none))) else (none))) else (none)) else (none))))=some r:=H
      have A35:=a_ A350
      clear A350
      replace H:=bs_ H
      obtain ⟨t426,A360,H⟩:=H
      replace H:((impl_OpOk.f kj5 t408 t409 t410 t411 t412).bind fun t429=>(if t429=true then (if t421=t416 then ((if t426.length+1 < 17592186044416 then (laws_lpInts.f kj5 t423 (t426++[t398])) else none).bind fun t430=>(if t430=true then ((laws_lpAt.f kj5 t418 t398).bind fun t431=>(if 0≤t431 then (if t431 < (t418.length:Int) then ((laws_lpAt.f kj5 t397 t398).bind fun t433=>(if 0≤t433 then (if t433 < (t397.length:Int) then (some (((rd_T37 t418 t431).f1)==(wrap64 (((rd_T37 t397 t433).f1)+1)))) else (none)) else (none))) else (none)) else (none))) else (none))) else (none)) else (none)))=some r:=H
      have A36:=a_ A360
      clear A360
      replace H:=bs_ H
      obtain ⟨t429,A370,H⟩:=H
      replace H:(if t429=true then (if t421=t416 then ((if t426.length+1 < 17592186044416 then (laws_lpInts.f kj5 t423 (t426++[t398])) else none).bind fun t430=>(if t430=true then ((laws_lpAt.f kj5 t418 t398).bind fun t431=>(if 0≤t431 then (if t431 < (t418.length:Int) then ((laws_lpAt.f kj5 t397 t398).bind fun t433=>(if 0≤t433 then (if t433 < (t397.length:Int) then (some (((rd_T37 t418 t431).f1)==(wrap64 (((rd_T37 t397 t433).f1)+1)))) else (none)) else (none))) else (none)) else (none))) else (none))) else (none)) else (none))=some r:=H
      have A37:=a_ A370
      clear A370
      by_cases c38:t429=true
      ·subst c38
       have H1:(if t421=t416 then ((if t426.length+1 < 17592186044416 then (laws_lpInts.f kj5 t423 (t426++[t398])) else none).bind fun t430=>(if t430=true then ((laws_lpAt.f kj5 t418 t398).bind fun t431=>(if 0≤t431 then (if t431 < (t418.length:Int) then ((laws_lpAt.f kj5 t397 t398).bind fun t433=>(if 0≤t433 then (if t433 < (t397.length:Int) then (some (((rd_T37 t418 t431).f1)==(wrap64 (((rd_T37 t397 t433).f1)+1)))) else (none)) else (none))) else (none)) else (none))) else (none))) else (none))=some r:=by rw [if_pos rfl] at H;exact H
       clear H
       have H:=H1
       clear H1
       by_cases c39:t421=t416
       ·rw [if_pos c39] at H
        have c39b0:(t421==t416)=true:=beq_iff_eq.mpr c39
        have c39b1:(t421 != t416)=false:=be_ c39
        clear c39
        replace H:=bs_ H
        obtain ⟨t430,A400,H⟩:=H
        replace H:(if t430=true then ((laws_lpAt.f kj5 t418 t398).bind fun t431=>(if 0≤t431 then (if t431 < (t418.length:Int) then ((laws_lpAt.f kj5 t397 t398).bind fun t433=>(if 0≤t433 then (if t433 < (t397.length:Int) then (some (((rd_T37 t418 t431).f1)==(wrap64 (((rd_T37 t397 t433).f1)+1)))) else (none)) else (none))) else (none)) else (none))) else (none))=some r:=H
        have LM400:t426.length+1 < 17592186044416∧laws_lpInts.f kj5 t423 (t426++[t398])=some t430:=by
         by_cases c_:t426.length+1 < 17592186044416
         ·rw [if_pos c_] at A400;exact ⟨c_,A400⟩
         ·rw [if_neg c_] at A400;exact absurd A400 (by simp)
        clear A400
        have A40:=a_ LM400.2
        have LMc40:=a_ LM400.1
        clear LM400
        by_cases c41:t430=true
        ·subst c41
         have H1:((laws_lpAt.f kj5 t418 t398).bind fun t431=>(if 0≤t431 then (if t431 < (t418.length:Int) then ((laws_lpAt.f kj5 t397 t398).bind fun t433=>(if 0≤t433 then (if t433 < (t397.length:Int) then (some (((rd_T37 t418 t431).f1)==(wrap64 (((rd_T37 t397 t433).f1)+1)))) else (none)) else (none))) else (none)) else (none)))=some r:=by rw [if_pos rfl] at H;exact H
         clear H
         have H:=H1
         clear H1
         replace H:=bs_ H
         obtain ⟨t431,A420,H⟩:=H
         replace H:(if 0≤t431 then (if t431 < (t418.length:Int) then ((laws_lpAt.f kj5 t397 t398).bind fun t433=>(if 0≤t433 then (if t433 < (t397.length:Int) then (some (((rd_T37 t418 t431).f1)==(wrap64 (((rd_T37 t397 t433).f1)+1)))) else (none)) else (none))) else (none)) else (none))=some r:=H
         have A42:=a_ A420
         clear A420
         by_cases c43:0≤t431
         ·rw [if_pos c43] at H
          have c43b0:decide (0≤t431)=true:=dt_ c43
          clear c43
          by_cases c44:t431 < (t418.length:Int)
          ·rw [if_pos c44] at H
           have c44b0:decide (t431 < (t418.length:Int))=true:=dt_ c44
           clear c44
           replace H:=bs_ H
           obtain ⟨t433,A450,H⟩:=H
           replace H:(if 0≤t433 then (if t433 < (t397.length:Int) then (some (((rd_T37 t418 t431).f1)==(wrap64 (((rd_T37 t397 t433).f1)+1)))) else (none)) else (none))=some r:=H
           have A45:=a_ A450
           clear A450
           by_cases c46:0≤t433
           ·rw [if_pos c46] at H
            have c46b0:decide (0≤t433)=true:=dt_ c46
            clear c46
            by_cases c47:t433 < (t397.length:Int)
            ·rw [if_pos c47] at H
             have c47b0:decide (t433 < (t397.length:Int))=true:=dt_ c47
             clear c47
             obtain rfl:=sj_ H
             try go_wp2_with (first|((with_reducible refine gC_ (f:=35) rfl ?_);refine goesL_ (some 60) rfl rfl Tryd.func35 (by kernel_rfl) rfl #[.slice Ao8 t397.length co8,.int .i64 t398] rfl (by (try simp only [List.map_toArray,List.map_cons,List.map_nil]);first|done|rfl|(simp only [List.length_drop,List.length_take];rfl)) ?_;(with_reducible refine (impl_TreeAhead.calls kj5 _ _ t397 t398 t416 t417 _ ?side1 ?side2 A31.out ?side3).mono ?_);(case side1=>repeat (first|exact (Kd.Q_reads' HO_3.out).2.2|(with_reducible refine Kd.C_alloc ?_ _)|(with_reducible refine Kd.C_drewN ?_ _)|(with_reducible refine Kd.C_drew ?_)));(case side2=>exact (Kd.Q_reads' HO_3.out).2.1);(case side3=>exact Glob.below HG.out (by repeat (first|(with_reducible first|exact HB.out|apply wA_|apply pw_below_drewN|apply below_drew1|refine wS_ ?_ GE407.out|refine wS_ ?_ GE414.out)|exact HB.out)));rintro e w48 ⟨rfl,hb⟩;refine ⟨_,rfl,?_⟩;have n0_:=a_ (Kd.Q_below (by (with_reducible repeat (first|apply Kd.Q_alloc|apply Kd.Q_drewN|apply Kd.Q_drew));exact HO_3.out) hb);have n1_:=a_ (blk_below (g:=gb407) (o:=.cells #[.int .i64 t401,.int .i64 t402,.int .i64 t403,.int .i64 t404,.string t405] 27 (0,0)) (by (with_reducible repeat (first|refine bN_ ?_ _|refine bD_ ?_|refine bA_ ?_ _));exact BK407.out) hb);have n2_:=a_ (blk_below (g:=gb414) (o:=.cells #[.int .i64 t408,.int .i64 t409,.int .i64 t410,.int .i64 t411,.string t412] 27 (0,0)) (by (with_reducible repeat (first|refine bN_ ?_ _|refine bD_ ?_|refine bA_ ?_ _));exact BK414.out) hb);have n3_:=a_ (bS_ (by repeat (first|(with_reducible first|exact HB.out|apply wA_|apply pw_below_drewN|apply below_drew1|refine wS_ ?_ GE407.out|refine wS_ ?_ GE414.out)|exact HB.out)) hb);clear HO_3;clear BK407;clear BK414;clear HB;have HO_3:=n0_;have BK407:=n1_;have BK414:=n2_;have HB:=n3_;clear n0_ n1_ n2_ n3_;(try clear hb);(try clear hb2);(try clear hk);(try clear hi);have hnb49:=NB414_407.out;have hnc49:=NB407_414.out;have Z50_0:w48.cell? ⟨gb414,0,none⟩=some (.int .i64 t408):=(bC_ BK414.out 0).trans rfl;have Z50_1:w48.cell? ⟨gb414,1,none⟩=some (.int .i64 t409):=(bC_ BK414.out 1).trans rfl;have Z50_2:w48.cell? ⟨gb414,2,none⟩=some (.int .i64 t410):=(bC_ BK414.out 2).trans rfl;have Z50_3:w48.cell? ⟨gb414,3,none⟩=some (.int .i64 t411):=(bC_ BK414.out 3).trans rfl;have Z50_4:w48.cell? ⟨gb414,4,none⟩=some (.string t412):=(bC_ BK414.out 4).trans rfl;have Y50_0:=bF_ BK414.out 0;have Y50_1:=bF_ BK414.out 1;have Y50_2:=bF_ BK414.out 2;have Y50_3:=bF_ BK414.out 3;have Y50_4:=bF_ BK414.out 4)|((with_reducible refine gC_ (f:=23) rfl ?_);refine goesL_ (some 73) rfl rfl Tryd.func23 (by kernel_rfl) rfl #[.slice Ao8 t397.length co8,.agg #[.int .i64 t408,.int .i64 t409,.int .i64 t410,.int .i64 t411,.string t412]] rfl (by (try simp only [List.map_toArray,List.map_cons,List.map_nil]);first|done|rfl|(simp only [List.length_drop,List.length_take];rfl)) ?_;(with_reducible refine (impl_OpDo.calls kj5 _ _ t397 t408 t409 t410 t411 t412 t418 _ ?side1 ?side2 A33.out ?side3).mono ?_);(case side1=>repeat (first|exact (Kd.Q_reads' HO_3.out).2.2|(with_reducible refine Kd.C_alloc ?_ _)|(with_reducible refine Kd.C_drewN ?_ _)|(with_reducible refine Kd.C_drew ?_)));(case side2=>exact (Kd.Q_reads' HO_3.out).2.1);(case side3=>exact Glob.below HG.out (by repeat (first|(with_reducible first|exact HB.out|apply wA_|apply pw_below_drewN|apply below_drew1|refine wS_ ?_ GE407.out|refine wS_ ?_ GE414.out)|exact HB.out)));rintro e w51 ⟨v419,rfl,ho0,hb⟩;refine ⟨_,rfl,?_⟩;have n0_:=a_ (Kd.Q_elder' (by (with_reducible repeat (first|apply Kd.Q_alloc|apply Kd.Q_drewN|apply Kd.Q_drew));exact HO_3.out) (Kd.R_base ho0) hb);have n1_:=a_ (Kd.R_lower (Kd.R_new' ho0 (Kd.Q_lt (by (with_reducible repeat (first|apply Kd.Q_alloc|apply Kd.Q_drewN|apply Kd.Q_drew));exact HO_3.out))) (below_size (by repeat (first|(with_reducible first|exact HB.out|apply wA_|apply pw_below_drewN|apply below_drew1|refine wS_ ?_ GE407.out|refine wS_ ?_ GE414.out)|exact HB.out))));have n2_:=a_ (blk_below (g:=gb407) (o:=.cells #[.int .i64 t401,.int .i64 t402,.int .i64 t403,.int .i64 t404,.string t405] 27 (0,0)) (by (with_reducible repeat (first|refine bN_ ?_ _|refine bD_ ?_|refine bA_ ?_ _));exact BK407.out) hb);have n3_:=a_ (blk_below (g:=gb414) (o:=.cells #[.int .i64 t408,.int .i64 t409,.int .i64 t410,.int .i64 t411,.string t412] 27 (0,0)) (by (with_reducible repeat (first|refine bN_ ?_ _|refine bD_ ?_|refine bA_ ?_ _));exact BK414.out) hb);have n4_:=a_ (bS_ (by repeat (first|(with_reducible first|exact HB.out|apply wA_|apply pw_below_drewN|apply below_drew1|refine wS_ ?_ GE407.out|refine wS_ ?_ GE414.out)|exact HB.out)) hb);clear HO_3;clear BK407;clear BK414;clear HB;have HO_3:=n0_;have HO420:=n1_;have BK407:=n2_;have BK414:=n3_;have HB:=n4_;clear n0_ n1_ n2_ n3_ n4_;(try clear hb);(try clear hb2);(try clear hk);(try clear hi);(try clear ho0);obtain ⟨Ao52,co52,eo52⟩:=Kd.R_slice HO420.out;subst eo52)|((with_reducible refine gC_ (f:=34) rfl ?_);refine goesL_ (some 77) rfl rfl Tryd.func34 (by kernel_rfl) rfl #[.slice Ao52 t418.length co52,.int .i64 t398] rfl (by (try simp only [List.map_toArray,List.map_cons,List.map_nil]);first|done|rfl|(simp only [List.length_drop,List.length_take];rfl)) ?_;(with_reducible refine (impl_TreeUp.calls kj5 _ _ t418 t398 t421 t422 _ ?side1 ?side2 A34.out ?side3).mono ?_);(case side1=>repeat (first|exact (Kd.R_reads' HO420.out).2.2|(with_reducible refine Kd.C_alloc ?_ _)|(with_reducible refine Kd.C_drewN ?_ _)|(with_reducible refine Kd.C_drew ?_)));(case side2=>exact (Kd.R_reads' HO420.out).2.1);(case side3=>exact Glob.below HG.out (by repeat (first|(with_reducible first|exact HB.out|apply wA_|apply pw_below_drewN|apply below_drew1|refine wS_ ?_ GE407.out|refine wS_ ?_ GE414.out)|exact HB.out)));rintro e w53 ⟨rfl,hb⟩;refine ⟨_,rfl,?_⟩;have n0_:=a_ (Kd.Q_below (by (with_reducible repeat (first|apply Kd.Q_alloc|apply Kd.Q_drewN|apply Kd.Q_drew));exact HO_3.out) hb);have n1_:=a_ (Kd.R_below (by (with_reducible repeat (first|apply Kd.R_alloc|apply Kd.R_drewN|apply Kd.R_drew));exact HO420.out) hb);have n2_:=a_ (blk_below (g:=gb407) (o:=.cells #[.int .i64 t401,.int .i64 t402,.int .i64 t403,.int .i64 t404,.string t405] 27 (0,0)) (by (with_reducible repeat (first|refine bN_ ?_ _|refine bD_ ?_|refine bA_ ?_ _));exact BK407.out) hb);have n3_:=a_ (blk_below (g:=gb414) (o:=.cells #[.int .i64 t408,.int .i64 t409,.int .i64 t410,.int .i64 t411,.string t412] 27 (0,0)) (by (with_reducible repeat (first|refine bN_ ?_ _|refine bD_ ?_|refine bA_ ?_ _));exact BK414.out) hb);have n4_:=a_ (bS_ (by repeat (first|(with_reducible first|exact HB.out|apply wA_|apply pw_below_drewN|apply below_drew1|refine wS_ ?_ GE407.out|refine wS_ ?_ GE414.out)|exact HB.out)) hb);clear HO_3;clear HO420;clear BK407;clear BK414;clear HB;have HO_3:=n0_;have HO420:=n1_;have BK407:=n2_;have BK414:=n3_;have HB:=n4_;clear n0_ n1_ n2_ n3_ n4_;(try clear hb);(try clear hb2);(try clear hk);(try clear hi))|((with_reducible refine gC_ (f:=37) rfl ?_);refine goesL_ (some 82) rfl rfl Tryd.func37 (by kernel_rfl) rfl #[.slice Ao52 t418.length co52,.int .i64 t416] rfl (by (try simp only [List.map_toArray,List.map_cons,List.map_nil]);first|done|rfl|(simp only [List.length_drop,List.length_take];rfl)) ?_;(with_reducible refine (impl_TreeKids.calls kj5 _ _ t418 t416 t423 _ ?side1 ?side2 A35.out ?side3).mono ?_);(case side1=>repeat (first|exact (Kd.R_reads' HO420.out).2.2|(with_reducible refine Kd.C_alloc ?_ _)|(with_reducible refine Kd.C_drewN ?_ _)|(with_reducible refine Kd.C_drew ?_)));(case side2=>exact (Kd.R_reads' HO420.out).2.1);(case side3=>exact Glob.below HG.out (by repeat (first|(with_reducible first|exact HB.out|apply wA_|apply pw_below_drewN|apply below_drew1|refine wS_ ?_ GE407.out|refine wS_ ?_ GE414.out)|exact HB.out)));rintro e w54 ⟨v424,rfl,ho0,hb⟩;refine ⟨_,rfl,?_⟩;have n0_:=a_ (Kd.Q_below (by (with_reducible repeat (first|apply Kd.Q_alloc|apply Kd.Q_drewN|apply Kd.Q_drew));exact HO_3.out) hb);have n1_:=a_ (Kd.R_below (by (with_reducible repeat (first|apply Kd.R_alloc|apply Kd.R_drewN|apply Kd.R_drew));exact HO420.out) hb);have n2_:=a_ (Kd.R_lower ho0 (below_size (by repeat (first|(with_reducible first|exact HB.out|apply wA_|apply pw_below_drewN|apply below_drew1|refine wS_ ?_ GE407.out|refine wS_ ?_ GE414.out)|exact HB.out))));have n3_:=a_ (blk_below (g:=gb407) (o:=.cells #[.int .i64 t401,.int .i64 t402,.int .i64 t403,.int .i64 t404,.string t405] 27 (0,0)) (by (with_reducible repeat (first|refine bN_ ?_ _|refine bD_ ?_|refine bA_ ?_ _));exact BK407.out) hb);have n4_:=a_ (blk_below (g:=gb414) (o:=.cells #[.int .i64 t408,.int .i64 t409,.int .i64 t410,.int .i64 t411,.string t412] 27 (0,0)) (by (with_reducible repeat (first|refine bN_ ?_ _|refine bD_ ?_|refine bA_ ?_ _));exact BK414.out) hb);have n5_:=a_ (bS_ (by repeat (first|(with_reducible first|exact HB.out|apply wA_|apply pw_below_drewN|apply below_drew1|refine wS_ ?_ GE407.out|refine wS_ ?_ GE414.out)|exact HB.out)) hb);clear HO_3;clear HO420;clear BK407;clear BK414;clear HB;have HO_3:=n0_;have HO420:=n1_;have HO425:=n2_;have BK407:=n3_;have BK414:=n4_;have HB:=n5_;clear n0_ n1_ n2_ n3_ n4_ n5_;(try clear hb);(try clear hb2);(try clear hk);(try clear hi);(try clear ho0))|((with_reducible refine gC_ (f:=37) rfl ?_);refine goesL_ (some 85) rfl rfl Tryd.func37 (by kernel_rfl) rfl #[.slice Ao8 t397.length co8,.int .i64 t416] rfl (by (try simp only [List.map_toArray,List.map_cons,List.map_nil]);first|done|rfl|(simp only [List.length_drop,List.length_take];rfl)) ?_;(with_reducible refine (impl_TreeKids.calls kj5 _ _ t397 t416 t426 _ ?side1 ?side2 A36.out ?side3).mono ?_);(case side1=>repeat (first|exact (Kd.Q_reads' HO_3.out).2.2|(with_reducible refine Kd.C_alloc ?_ _)|(with_reducible refine Kd.C_drewN ?_ _)|(with_reducible refine Kd.C_drew ?_)));(case side2=>exact (Kd.Q_reads' HO_3.out).2.1);(case side3=>exact Glob.below HG.out (by repeat (first|(with_reducible first|exact HB.out|apply wA_|apply pw_below_drewN|apply below_drew1|refine wS_ ?_ GE407.out|refine wS_ ?_ GE414.out)|exact HB.out)));rintro e w55 ⟨v427,rfl,ho0,hb⟩;refine ⟨_,rfl,?_⟩;have n0_:=a_ (Kd.Q_below (by (with_reducible repeat (first|apply Kd.Q_alloc|apply Kd.Q_drewN|apply Kd.Q_drew));exact HO_3.out) hb);have n1_:=a_ (Kd.R_below (by (with_reducible repeat (first|apply Kd.R_alloc|apply Kd.R_drewN|apply Kd.R_drew));exact HO420.out) hb);have n2_:=a_ (Kd.R_elder' (by (with_reducible repeat (first|apply Kd.R_alloc|apply Kd.R_drewN|apply Kd.R_drew));exact HO425.out) (Kd.R_base ho0) hb);have n3_:=a_ (Kd.R_lower (Kd.R_new' ho0 (Kd.R_lt (by (with_reducible repeat (first|apply Kd.R_alloc|apply Kd.R_drewN|apply Kd.R_drew));exact HO425.out))) (below_size (by repeat (first|(with_reducible first|exact HB.out|apply wA_|apply pw_below_drewN|apply below_drew1|refine wS_ ?_ GE407.out|refine wS_ ?_ GE414.out)|exact HB.out))));have n4_:=a_ (blk_below (g:=gb407) (o:=.cells #[.int .i64 t401,.int .i64 t402,.int .i64 t403,.int .i64 t404,.string t405] 27 (0,0)) (by (with_reducible repeat (first|refine bN_ ?_ _|refine bD_ ?_|refine bA_ ?_ _));exact BK407.out) hb);have n5_:=a_ (blk_below (g:=gb414) (o:=.cells #[.int .i64 t408,.int .i64 t409,.int .i64 t410,.int .i64 t411,.string t412] 27 (0,0)) (by (with_reducible repeat (first|refine bN_ ?_ _|refine bD_ ?_|refine bA_ ?_ _));exact BK414.out) hb);have n6_:=a_ (bS_ (by repeat (first|(with_reducible first|exact HB.out|apply wA_|apply pw_below_drewN|apply below_drew1|refine wS_ ?_ GE407.out|refine wS_ ?_ GE414.out)|exact HB.out)) hb);clear HO_3;clear HO420;clear HO425;clear BK407;clear BK414;clear HB;have HO_3:=n0_;have HO420:=n1_;have HO425:=n2_;have HO428:=n3_;have BK407:=n4_;have BK414:=n5_;have HB:=n6_;clear n0_ n1_ n2_ n3_ n4_ n5_ n6_;(try clear hb);(try clear hb2);(try clear hk);(try clear hi);(try clear ho0)))
             have n0_:=a_ (Kd.Q_drew HO_3.out)
             have n1_:=a_ (Kd.R_drew HO420.out)
             have n2_:=a_ (Kd.R_drew HO425.out)
             have n3_:=a_ (Kd.R_drew HO428.out)
             have n4_:=a_ (bD_ BK407.out)
             have n5_:=a_ (bD_ BK414.out)
             have n6_:=a_ (below_drew1 HB.out)
             clear HO_3
             clear HO420
             clear HO425
             clear HO428
             clear BK407
             clear BK414
             clear HB
             have HO_3:=n0_
             have HO420:=n1_
             have HO425:=n2_
             have HO428:=n3_
             have BK407:=n4_
             have BK414:=n5_
             have HB:=n6_
             clear n0_ n1_ n2_ n3_ n4_ n5_ n6_
             have p432:0≤(t431:Int):=of_decide_eq_true (by first|(with_reducible assumption)|assumption)
             have q432:t431 < (t418.length:Int):=of_decide_eq_true (by first|(with_reducible assumption)|assumption)
             obtain ⟨ad432,e432,hx432_0,hx432_1,hx432_2⟩:=at_T37 (Kd.R_reads' HO420.out).2.2 t431 p432 q432
             cases e432
             replace p432:=eq_true p432
             replace q432:=eq_true q432
             have p434:0≤(t433:Int):=of_decide_eq_true (by first|(with_reducible assumption)|assumption)
             have q434:t433 < (t397.length:Int):=of_decide_eq_true (by first|(with_reducible assumption)|assumption)
             obtain ⟨ad434,e434,hx434_0,hx434_1,hx434_2⟩:=at_T37 (Kd.Q_reads' HO_3.out).2.2 t433 p434 q434
             cases e434
             replace p434:=eq_true p434
             replace q434:=eq_true q434
             refine start_ (n:=36) (S:=fun w'=>w'.cell? ⟨gb414,0,none⟩=some (.int .i64 t408)∧w'.cell? ⟨gb414,1,none⟩=some (.int .i64 t409)∧w'.cell? ⟨gb414,2,none⟩=some (.int .i64 t410)∧w'.cell? ⟨gb414,3,none⟩=some (.int .i64 t411)∧w'.cell? ⟨gb414,4,none⟩=some (.string t412)∧w'.cell? (ad432.add ((t431).toNat * 3))=some (.int .i64 ((rd_T37 t418 t431).f0))∧w'.cell? ⟨(ad432.add ((t431).toNat * 3)).block,(ad432.add ((t431).toNat * 3)).off+1,none⟩=some (.int .i64 ((rd_T37 t418 t431).f1))∧w'.cell? ⟨(ad432.add ((t431).toNat * 3)).block,(ad432.add ((t431).toNat * 3)).off+2,none⟩=some (.string ((rd_T37 t418 t431).f2))∧w'.cell? (ad434.add ((t433).toNat * 3))=some (.int .i64 ((rd_T37 t397 t433).f0))∧w'.cell? ⟨(ad434.add ((t433).toNat * 3)).block,(ad434.add ((t433).toNat * 3)).off+1,none⟩=some (.int .i64 ((rd_T37 t397 t433).f1))∧w'.cell? ⟨(ad434.add ((t433).toNat * 3)).block,(ad434.add ((t433).toNat * 3)).off+2,none⟩=some (.string ((rd_T37 t397 t433).f2))) (ds:=[]) #[false,false,false,false,false,false,false,false,false,false,false,false,false,false,false,false,false,false,false,false,false,false,false,false,false,false,false,false,false,false,false,false,false,false,false,false] (by kernel_rfl) rfl rfl ⟨(bC_ BK414.out 0).trans rfl,(bC_ BK414.out 1).trans rfl,(bC_ BK414.out 2).trans rfl,(bC_ BK414.out 3).trans rfl,(bC_ BK414.out 4).trans rfl,hx432_0,hx432_1,hx432_2,hx434_0,hx434_1,hx434_2⟩ (fun hHeld=>?_);refine with_tabW laws_FnKeyIn.tab15 laws_FnKeyIn.bits15 (fun HT_ HW_=>?_)
             generalize w55.drew=w56 at HO_3 HO420 HO425 HO428 BK407 BK414 HB hx432_0 hx432_1 hx432_2 hx434_0 hx434_1 hx434_2 hHeld ⊢
             refine take_ (i:=0) (N:=some 86) (v:=?_) (a':=?_) #[true,false,false,false,false,false,false,false,false,false,false,false,false,false,false,false,false,false,false,false,false,false,false,false,false,false,false,false,false,false,false,false,false,false,false,false] rfl rfl (take_ofW HT_.out HW_.out (by kernel_rfl)) (fun _ _ _ h=>h) (Or.inl ⟨by rfl,?_⟩) hHeld ?_ ?_
             rotate_left
             ·rintro w' ⟨s0,s1,s2,s3,s4,s5,s6,s7,s8,s9,s10⟩
              go_simp
              with_reducible rfl
             rotate_left
             ·simp only [Act.put,List.setIfInBounds_toArray,List.set_cons_zero,List.set_cons_succ,i64_w,i32_w]
              rfl
             refine one_ (i:=1) (N:=some 87) #[true,true,false,false,false,false,false,false,false,false,false,false,false,false,false,false,false,false,false,false,false,false,false,false,false,false,false,false,false,false,false,false,false,false,false,false] rfl rfl (one_of HT_.out (by kernel_rfl)) (by decide) (fun K hK=>?_)
             refine goes_ Tryd.func36 (by kernel_rfl) rfl #[.agg #[.int .i64 t408,.int .i64 t409,.int .i64 t410,.int .i64 t411,.string t412]] (by rfl) rfl rfl (by (try simp only [List.map_toArray,List.map_cons,List.map_nil]);first|done|rfl|(simp only [List.length_drop,List.length_take];rfl)) ?_
             with_reducible refine (impl_OpOk.calls kj5 t408 t409 t410 t411 t412 true _ A37.out ?side1).mono ?_
             (case side1=>exact Glob.below HG.out (by repeat (first|(with_reducible first|exact HB.out|apply wA_|apply pw_below_drewN|apply below_drew1|refine wS_ ?_ GE407.out|refine wS_ ?_ GE414.out)|exact HB.out)))
             rintro e w57 ⟨rfl,hb⟩
             have HS5_:=(hb.cell (bl_ _ _ (hHeld.2.2.2.2.2.1))).trans (hHeld.2.2.2.2.2.1)
             have HS6_:=(hb.cell (bl_ _ _ (hHeld.2.2.2.2.2.2.1))).trans (hHeld.2.2.2.2.2.2.1)
             have HS7_:=(hb.cell (bl_ _ _ (hHeld.2.2.2.2.2.2.2.1))).trans (hHeld.2.2.2.2.2.2.2.1)
             have HS8_:=(hb.cell (bl_ _ _ (hHeld.2.2.2.2.2.2.2.2.1))).trans (hHeld.2.2.2.2.2.2.2.2.1)
             have HS9_:=(hb.cell (bl_ _ _ (hHeld.2.2.2.2.2.2.2.2.2.1))).trans (hHeld.2.2.2.2.2.2.2.2.2.1)
             have HS10_:=(hb.cell (bl_ _ _ (hHeld.2.2.2.2.2.2.2.2.2.2))).trans (hHeld.2.2.2.2.2.2.2.2.2.2)
             refine ⟨_,rfl,?_⟩
             have n0_:=a_ (Kd.Q_below (by (with_reducible repeat (first|apply Kd.Q_alloc|apply Kd.Q_drewN|apply Kd.Q_drew));exact HO_3.out) hb)
             have n1_:=a_ (Kd.R_below (by (with_reducible repeat (first|apply Kd.R_alloc|apply Kd.R_drewN|apply Kd.R_drew));exact HO420.out) hb)
             have n2_:=a_ (Kd.R_below (by (with_reducible repeat (first|apply Kd.R_alloc|apply Kd.R_drewN|apply Kd.R_drew));exact HO425.out) hb)
             have n3_:=a_ (Kd.R_below (by (with_reducible repeat (first|apply Kd.R_alloc|apply Kd.R_drewN|apply Kd.R_drew));exact HO428.out) hb)
             have n4_:=a_ (blk_below (g:=gb407) (o:=.cells #[.int .i64 t401,.int .i64 t402,.int .i64 t403,.int .i64 t404,.string t405] 27 (0,0)) (by (with_reducible repeat (first|refine bN_ ?_ _|refine bD_ ?_|refine bA_ ?_ _));exact BK407.out) hb)
             have n5_:=a_ (blk_below (g:=gb414) (o:=.cells #[.int .i64 t408,.int .i64 t409,.int .i64 t410,.int .i64 t411,.string t412] 27 (0,0)) (by (with_reducible repeat (first|refine bN_ ?_ _|refine bD_ ?_|refine bA_ ?_ _));exact BK414.out) hb)
             have n6_:=a_ (bS_ (by repeat (first|(with_reducible first|exact HB.out|apply wA_|apply pw_below_drewN|apply below_drew1|refine wS_ ?_ GE407.out|refine wS_ ?_ GE414.out)|exact HB.out)) hb)
             clear HO_3
             clear HO420
             clear HO425
             clear HO428
             clear BK407
             clear BK414
             clear HB
             have HO_3:=n0_
             have HO420:=n1_
             have HO425:=n2_
             have HO428:=n3_
             have BK407:=n4_
             have BK414:=n5_
             have HB:=n6_
             clear n0_ n1_ n2_ n3_ n4_ n5_ n6_
             (try clear hb)
             (try clear hb2)
             (try clear hk)
             (try clear hi)
             obtain ⟨Ao58,co58,eo58⟩:=Kd.R_slice HO425.out
             (first|subst eo58|(injection eo58 with f1_ f2_ f3_;have f4_:=f1_.symm;have f5_:=f3_.symm;clear f1_ f2_ f3_;subst f4_;subst f5_))
             obtain ⟨Ao59,co59,eo59⟩:=Kd.R_slice HO428.out
             (first|subst eo59|(injection eo59 with f1_ f2_ f3_;have f4_:=f1_.symm;have f5_:=f3_.symm;clear f1_ f2_ f3_;subst f4_;subst f5_))
             refine hK.out _ _ ⟨(bC_ BK414.out 0).trans rfl,(bC_ BK414.out 1).trans rfl,(bC_ BK414.out 2).trans rfl,(bC_ BK414.out 3).trans rfl,(bC_ BK414.out 4).trans rfl,HS5_,HS6_,HS7_,HS8_,HS9_,HS10_⟩ (fun hHeld=>?_)
             clear hK K
             refine norm_ (a':=?_) ?_ ?_
             rotate_left
             ·show Act.put _ (some 87) _=_
              simp only [Act.put,List.setIfInBounds_toArray,List.set_cons_zero,List.set_cons_succ,i64_w,i32_w]
              rfl
             refine pure_ (i:=2) (N:=some 88) (v:=?_) (a':=?_) #[true,true,true,false,false,false,false,false,false,false,false,false,false,false,false,false,false,false,false,false,false,false,false,false,false,false,false,false,false,false,false,false,false,false,false,false] rfl rfl (any_of HT_.out (by kernel_rfl)) (fun _ _ _ h=>h) (Or.inl ⟨by rfl,?_⟩) ?_ ?_
             rotate_left
             ·intro w'
              go_simp
              with_reducible rfl
             rotate_left
             ·simp only [Act.put,List.setIfInBounds_toArray,List.set_cons_zero,List.set_cons_succ,i64_w,i32_w]
              rfl
             refine pure_ (i:=3) (N:=some 89) (v:=?_) (a':=?_) #[true,true,true,true,false,false,false,false,false,false,false,false,false,false,false,false,false,false,false,false,false,false,false,false,false,false,false,false,false,false,false,false,false,false,false,false] rfl rfl (any_of HT_.out (by kernel_rfl)) (fun _ _ _ h=>h) (Or.inl ⟨by rfl,?_⟩) ?_ ?_
             rotate_left
             ·intro w'
              go_simp
              with_reducible rfl
             rotate_left
             ·simp only [Act.put,List.setIfInBounds_toArray,List.set_cons_zero,List.set_cons_succ,i64_w,i32_w]
              rfl
             refine pure_ (i:=4) (N:=some 90) (v:=?_) (a':=?_) #[true,true,true,true,true,false,false,false,false,false,false,false,false,false,false,false,false,false,false,false,false,false,false,false,false,false,false,false,false,false,false,false,false,false,false,false] rfl rfl (any_of HT_.out (by kernel_rfl)) (fun _ _ _ h=>h) (Or.inl ⟨by rfl,?_⟩) ?_ ?_
             rotate_left
             ·intro w'
              go_simp
              with_reducible rfl
             rotate_left
             ·simp only [Act.put,List.setIfInBounds_toArray,List.set_cons_zero,List.set_cons_succ,i64_w,i32_w]
              rfl
             refine pure_ (i:=5) (N:=some 91) (v:=?_) (a':=?_) #[true,true,true,true,true,true,false,false,false,false,false,false,false,false,false,false,false,false,false,false,false,false,false,false,false,false,false,false,false,false,false,false,false,false,false,false] rfl rfl (any_of HT_.out (by kernel_rfl)) (fun _ _ _ h=>h) (Or.inl ⟨by rfl,?_⟩) ?_ ?_
             rotate_left
             ·intro w'
              go_simp
              with_reducible rfl
             rotate_left
             ·simp only [Act.put,List.setIfInBounds_toArray,List.set_cons_zero,List.set_cons_succ,i64_w,i32_w]
              rfl
             refine pure_ (i:=6) (N:=some 92) (v:=?_) (a':=?_) #[true,true,true,true,true,true,true,false,false,false,false,false,false,false,false,false,false,false,false,false,false,false,false,false,false,false,false,false,false,false,false,false,false,false,false,false] rfl rfl (any_of HT_.out (by kernel_rfl)) (fun _ _ _ h=>h) (Or.inl ⟨by rfl,?_⟩) ?_ ?_
             rotate_left
             ·intro w'
              go_simp
              with_reducible rfl
             rotate_left
             ·simp only [Act.put,List.setIfInBounds_toArray,List.set_cons_zero,List.set_cons_succ,i64_w,i32_w]
              rfl
             refine pure_ (i:=7) (N:=some 93) (v:=?_) (a':=?_) #[true,true,true,true,true,true,true,true,false,false,false,false,false,false,false,false,false,false,false,false,false,false,false,false,false,false,false,false,false,false,false,false,false,false,false,false] rfl rfl (any_of HT_.out (by kernel_rfl)) (fun _ _ _ h=>h) (Or.inl ⟨by rfl,?_⟩) ?_ ?_
             rotate_left
             ·intro w'
              go_simp
              with_reducible rfl
             rotate_left
             ·simp only [Act.put,List.setIfInBounds_toArray,List.set_cons_zero,List.set_cons_succ,i64_w,i32_w]
              rfl
             refine pure_ (i:=8) (N:=some 94) (v:=?_) (a':=?_) #[true,true,true,true,true,true,true,true,true,false,false,false,false,false,false,false,false,false,false,false,false,false,false,false,false,false,false,false,false,false,false,false,false,false,false,false] rfl rfl (any_of HT_.out (by kernel_rfl)) (fun _ _ _ h=>h) (Or.inl ⟨by rfl,?_⟩) ?_ ?_
             rotate_left
             ·intro w'
              go_simp
              with_reducible rfl
             rotate_left
             ·simp only [Act.put,List.setIfInBounds_toArray,List.set_cons_zero,List.set_cons_succ,i64_w,i32_w]
              rfl
             refine pure_ (i:=10) (N:=some 96) (v:=?_) (a':=?_) #[true,true,true,true,true,true,true,true,true,false,true,false,false,false,false,false,false,false,false,false,false,false,false,false,false,false,false,false,false,false,false,false,false,false,false,false] rfl rfl (any_of HT_.out (by kernel_rfl)) (fun _ _ _ h=>h) (Or.inl ⟨by rfl,?_⟩) ?_ ?_
             rotate_left
             ·intro w'
              go_simp
              with_reducible rfl
             rotate_left
             ·simp only [Act.put,List.setIfInBounds_toArray,List.set_cons_zero,List.set_cons_succ,i64_w,i32_w]
              rfl
             refine pure_ (i:=12) (N:=some 98) (v:=?_) (a':=?_) #[true,true,true,true,true,true,true,true,true,false,true,false,true,false,false,false,false,false,false,false,false,false,false,false,false,false,false,false,false,false,false,false,false,false,false,false] rfl rfl (any_of HT_.out (by kernel_rfl)) (fun _ _ _ h=>h) (Or.inl ⟨by rfl,?_⟩) ?_ ?_
             rotate_left
             ·intro w'
              go_simp
              with_reducible rfl
             rotate_left
             ·simp only [Act.put,List.setIfInBounds_toArray,List.set_cons_zero,List.set_cons_succ,i64_w,i32_w]
              rfl
             have hHold_:Aside0 (∀ w':World,Below w57.heap.size w57 w'→(w'.cell? ⟨gb414,0,none⟩=some (.int .i64 t408)∧w'.cell? ⟨gb414,1,none⟩=some (.int .i64 t409)∧w'.cell? ⟨gb414,2,none⟩=some (.int .i64 t410)∧w'.cell? ⟨gb414,3,none⟩=some (.int .i64 t411)∧w'.cell? ⟨gb414,4,none⟩=some (.string t412)∧w'.cell? (ad432.add ((t431).toNat * 3))=some (.int .i64 ((rd_T37 t418 t431).f0))∧w'.cell? ⟨(ad432.add ((t431).toNat * 3)).block,(ad432.add ((t431).toNat * 3)).off+1,none⟩=some (.int .i64 ((rd_T37 t418 t431).f1))∧w'.cell? ⟨(ad432.add ((t431).toNat * 3)).block,(ad432.add ((t431).toNat * 3)).off+2,none⟩=some (.string ((rd_T37 t418 t431).f2))∧w'.cell? (ad434.add ((t433).toNat * 3))=some (.int .i64 ((rd_T37 t397 t433).f0))∧w'.cell? ⟨(ad434.add ((t433).toNat * 3)).block,(ad434.add ((t433).toNat * 3)).off+1,none⟩=some (.int .i64 ((rd_T37 t397 t433).f1))∧w'.cell? ⟨(ad434.add ((t433).toNat * 3)).block,(ad434.add ((t433).toNat * 3)).off+2,none⟩=some (.string ((rd_T37 t397 t433).f2)))):=⟨fun w' hb_=>⟨(hb_.cell (bl_ _ _ (hHeld.1))).trans (hHeld.1),(hb_.cell (bl_ _ _ (hHeld.2.1))).trans (hHeld.2.1),(hb_.cell (bl_ _ _ (hHeld.2.2.1))).trans (hHeld.2.2.1),(hb_.cell (bl_ _ _ (hHeld.2.2.2.1))).trans (hHeld.2.2.2.1),(hb_.cell (bl_ _ _ (hHeld.2.2.2.2.1))).trans (hHeld.2.2.2.2.1),(hb_.cell (bl_ _ _ (hHeld.2.2.2.2.2.1))).trans (hHeld.2.2.2.2.2.1),(hb_.cell (bl_ _ _ (hHeld.2.2.2.2.2.2.1))).trans (hHeld.2.2.2.2.2.2.1),(hb_.cell (bl_ _ _ (hHeld.2.2.2.2.2.2.2.1))).trans (hHeld.2.2.2.2.2.2.2.1),(hb_.cell (bl_ _ _ (hHeld.2.2.2.2.2.2.2.2.1))).trans (hHeld.2.2.2.2.2.2.2.2.1),(hb_.cell (bl_ _ _ (hHeld.2.2.2.2.2.2.2.2.2.1))).trans (hHeld.2.2.2.2.2.2.2.2.2.1),(hb_.cell (bl_ _ _ (hHeld.2.2.2.2.2.2.2.2.2.2))).trans (hHeld.2.2.2.2.2.2.2.2.2.2)⟩⟩
             obtain ⟨y0,hy0⟩:∃ y_:List Int,y_=([]:List Int):=⟨_,rfl⟩
             have Ny0:=a_ hy0
             clear hy0
             obtain ⟨y1,hy1⟩:∃ y_:List Int,y_=(y0++t426):=⟨_,rfl⟩
             have Ny1:=a_ hy1
             clear hy1
             obtain ⟨y2,hy2⟩:∃ y_:List Int,y_=([t398]:List Int):=⟨_,rfl⟩
             have Ny2:=a_ hy2
             clear hy2
             obtain ⟨y3,hy3⟩:∃ y_:List Int,y_=(y1++y2):=⟨_,rfl⟩
             have Ny3:=a_ hy3
             clear hy3
             have E3:Aside0 (y3=t426++[t398]):=⟨by rw [Ny3.out,Ny1.out,Ny2.out,Ny0.out];rfl⟩
             have LY1:Aside0 (y0.length+t426.length < 17592186044416):=⟨by have:=LMc40.out;rw [Ny0.out];simp only [List.length_nil];omega⟩
             have LY3:Aside0 (y1.length+y2.length < 17592186044416):=⟨by have:=LMc40.out;rw [Ny1.out,Ny2.out,Ny0.out];simp only [List.length_append,List.length_nil,List.length_cons];omega⟩
             refine join_ (σ:=Value×Value×Value) 22 #[true,true,true,true,true,true,true,true,true,true,true,true,true,true,false,false,false,false,false,false,false,false,false,false,false,false,false,false,false,false,false,false,false,false,false,false] (fun s_=>[(95,s_.1),(97,s_.2.1),(99,s_.2.2)]) (fun s_ w'=>(w'.cell? ⟨gb414,0,none⟩=some (.int .i64 t408)∧w'.cell? ⟨gb414,1,none⟩=some (.int .i64 t409)∧w'.cell? ⟨gb414,2,none⟩=some (.int .i64 t410)∧w'.cell? ⟨gb414,3,none⟩=some (.int .i64 t411)∧w'.cell? ⟨gb414,4,none⟩=some (.string t412)∧w'.cell? (ad432.add ((t431).toNat * 3))=some (.int .i64 ((rd_T37 t418 t431).f0))∧w'.cell? ⟨(ad432.add ((t431).toNat * 3)).block,(ad432.add ((t431).toNat * 3)).off+1,none⟩=some (.int .i64 ((rd_T37 t418 t431).f1))∧w'.cell? ⟨(ad432.add ((t431).toNat * 3)).block,(ad432.add ((t431).toNat * 3)).off+2,none⟩=some (.string ((rd_T37 t418 t431).f2))∧w'.cell? (ad434.add ((t433).toNat * 3))=some (.int .i64 ((rd_T37 t397 t433).f0))∧w'.cell? ⟨(ad434.add ((t433).toNat * 3)).block,(ad434.add ((t433).toNat * 3)).off+1,none⟩=some (.int .i64 ((rd_T37 t397 t433).f1))∧w'.cell? ⟨(ad434.add ((t433).toNat * 3)).block,(ad434.add ((t433).toNat * 3)).off+2,none⟩=some (.string ((rd_T37 t397 t433).f2)))∧(Kd.R (Kd.int .i64) 3 w' w57.heap.size (fun k_=>some k_≠(s_.2.2:Value).ownBlock) s_.2.1 y1)∧(Kd.R (Kd.int .i64) 3 w' w57.heap.size (fun k_=>some k_≠(s_.2.1:Value).ownBlock) s_.2.2 y2)∧(Below w57.heap.size w57 w')) ?_ ?_
             rotate_left
             ·intro hCont
              refine two_ (i:=9) (j:=13) (Ni:=some 95) (Nj:=some 99) #[true,true,true,true,true,true,true,true,true,true,true,false,true,false,false,false,false,false,false,false,false,false,false,false,false,false,false,false,false,false,false,false,false,false,false,false] #[true,true,true,true,true,true,true,true,true,false,true,false,true,true,false,false,false,false,false,false,false,false,false,false,false,false,false,false,false,false,false,false,false,false,false,false] rfl rfl rfl rfl (two_of HT_.out (by kernel_rfl)) (by decide) (by decide) (fun K hK=>?_) (fun K hK=>?_)
              ·skip
               refine Kd.R_lit_step (Kd.int .i64) _ 3 ?hg (N:=95) ?hd (xs:=([]:List Int)) (inner:=[]) (ok:=fun _=>True) (okp:=fun _=>True) ?hr ?hp (fun _ hk=>hk) trivial (Below.refl _ _) (Nat.le_refl _) (by simp) ?_;(case hd=>rfl);(case hg=>rfl);(case hr=>first|(go_simp;done)|(go_simp;rfl));(case hp=>exact (Reps.none _ _))
               intro v95 wa_ ho hb hg_ hnew_
               clear hg_ hnew_
               (first|rw [←Ny0.out] at ho|(simp only [Int.reduceToNat] at ho;rw [←Ny0.out] at ho))
               have HOa:=a_ ho
               have HX:=a_ hb
               clear ho hb
               refine hK.out _ _ (hHold_.out _ HX.out) (fun hHeld=>?_)
               clear hK K
               refine norm_ (a':=?_) ?_ ?_
               rotate_left
               ·show Act.put _ (some 95) _=_
                simp only [Act.put,List.setIfInBounds_toArray,List.set_cons_zero,List.set_cons_succ,i64_w,i32_w]
                rfl
               refine two_ (i:=11) (j:=13) (Ni:=some 97) (Nj:=some 99) #[true,true,true,true,true,true,true,true,true,true,true,true,true,false,false,false,false,false,false,false,false,false,false,false,false,false,false,false,false,false,false,false,false,false,false,false] #[true,true,true,true,true,true,true,true,true,true,true,false,true,true,false,false,false,false,false,false,false,false,false,false,false,false,false,false,false,false,false,false,false,false,false,false] rfl rfl rfl rfl (two_of HT_.out (by kernel_rfl)) (by decide) (by decide) (fun K hK=>?_) (fun K hK=>?_)
               ·skip
                refine Kd.R_append_rows_step (Kd.int .i64) (w0:=w57) w57.heap.size (by rfl) (.tmp 95) (.tmp 96) 43 3 (.int .i64 0) 8 rfl Tryd.underlying43 info3 rfl (by decide) (by omega) v95 y0 t426 _ _ _ (fun _=>True) (fun _=>False) rfl rfl ?aO ?aR (fun _ _ h=>h) (fun _ h=>h.elim) ?aF ?aB ?aS ?aL ?_
                (case aR=>exact (Kd.R_reads' (Kd.R_below HO428.out HX.out)).2.2)
                (case aB=>exact HX.out)
                (case aF=>exact (fun _ _=>trivial))
                (case aO=>exact HOa.out)
                (case aS=>exact HX.out.size)
                (case aL=>have:=LY1.out;omega)
                intro v97 wb_ ho hb hg hat
                rw [←Ny1.out] at ho
                have HOb:=a_ ho
                have HX:=a_ hb
                clear ho hb hg hat
                refine hK.out _ _ (hHold_.out _ HX.out) (fun hHeld=>?_)
                clear hK K
                refine norm_ (a':=?_) ?_ ?_
                rotate_left
                ·show Act.put _ (some 97) _=_
                 simp only [Act.put,List.setIfInBounds_toArray,List.set_cons_zero,List.set_cons_succ,i64_w,i32_w]
                 rfl
                refine one_ (i:=13) (N:=some 99) #[true,true,true,true,true,true,true,true,true,true,true,true,true,true,false,false,false,false,false,false,false,false,false,false,false,false,false,false,false,false,false,false,false,false,false,false] rfl rfl (one_of HT_.out (by kernel_rfl)) (by decide) (fun K hK=>?_)
                refine Kd.R_lit_step (Kd.int .i64) _ 3 ?hg (N:=99) ?hd (xs:=([t398]:List Int)) (inner:=[.int .i64 t398]) (ok:=fun _=>True) (okp:=fun _=>True) ?hr ?hp (fun _ hk=>hk) trivial (Below.refl _ _) (Nat.le_refl _) (by simp) ?_;(case hd=>rfl);(case hg=>rfl);(case hr=>first|(go_simp;done)|(go_simp;rfl));(case hp=>exact (Reps.one (show Kd.M (Kd.int .i64) _ _ _ t398 [.int .i64 t398] from rfl) (Reps.none _ _)))
                intro v99 wc_ ho hb hg_ hnew_
                clear hg_ hnew_
                (first|rw [←Ny2.out] at ho|(simp only [Int.reduceToNat] at ho;rw [←Ny2.out] at ho))
                have HOc:=a_ (Kd.R_lower (Kd.R_new' ho (Kd.R_lt HOb.out)) HX.out.size)
                have HOb:=a_ (Kd.R_elder' HOb.out (Kd.R_base ho) hb)
                have HX:=a_ (bS_ HX.out hb)
                clear ho hb
                refine hK.out _ _ (hHold_.out _ HX.out) (fun hHeld=>?_)
                clear hK K
                refine norm_ (a':=?_) ?_ ?_
                rotate_left
                ·show Act.put _ (some 99) _=_
                 simp only [Act.put,List.setIfInBounds_toArray,List.set_cons_zero,List.set_cons_succ,i64_w,i32_w]
                 rfl
                exact norm_ (by simp only [putAll,Act.put,List.setIfInBounds_toArray,List.set_cons_zero,List.set_cons_succ]) (hCont (v95,v97,v99) _ ⟨hHeld,Kd.R_mono HOb.out (fun _ hk=>hk.2),Kd.R_mono HOc.out (fun _ hk=>hk.2),HX.out⟩)
               ·skip
                refine Kd.R_lit_step (Kd.int .i64) _ 3 ?hg (N:=99) ?hd (xs:=([t398]:List Int)) (inner:=[.int .i64 t398]) (ok:=fun _=>True) (okp:=fun _=>True) ?hr ?hp (fun _ hk=>hk) trivial (Below.refl _ _) (Nat.le_refl _) (by simp) ?_;(case hd=>rfl);(case hg=>rfl);(case hr=>first|(go_simp;done)|(go_simp;rfl));(case hp=>exact (Reps.one (show Kd.M (Kd.int .i64) _ _ _ t398 [.int .i64 t398] from rfl) (Reps.none _ _)))
                intro v99 wb_ ho hb hg_ hnew_
                clear hg_ hnew_
                (first|rw [←Ny2.out] at ho|(simp only [Int.reduceToNat] at ho;rw [←Ny2.out] at ho))
                have HOc:=a_ (Kd.R_lower (Kd.R_new' ho (Kd.R_lt HOa.out)) HX.out.size)
                have HOa:=a_ (Kd.R_elder' HOa.out (Kd.R_base ho) hb)
                have HX:=a_ (bS_ HX.out hb)
                clear ho hb
                refine hK.out _ _ (hHold_.out _ HX.out) (fun hHeld=>?_)
                clear hK K
                refine norm_ (a':=?_) ?_ ?_
                rotate_left
                ·show Act.put _ (some 99) _=_
                 simp only [Act.put,List.setIfInBounds_toArray,List.set_cons_zero,List.set_cons_succ,i64_w,i32_w]
                 rfl
                refine one_ (i:=11) (N:=some 97) #[true,true,true,true,true,true,true,true,true,true,true,true,true,true,false,false,false,false,false,false,false,false,false,false,false,false,false,false,false,false,false,false,false,false,false,false] rfl rfl (one_of HT_.out (by kernel_rfl)) (by decide) (fun K hK=>?_)
                refine Kd.R_append_rows_step (Kd.int .i64) (w0:=w57) w57.heap.size (by rfl) (.tmp 95) (.tmp 96) 43 3 (.int .i64 0) 8 rfl Tryd.underlying43 info3 rfl (by decide) (by omega) v95 y0 t426 _ _ _ (fun k_=>some k_≠(v99:Value).ownBlock) (fun _=>False) rfl rfl ?aO ?aR (fun _ _ h=>h) (fun _ h=>h.elim) ?aF ?aB ?aS ?aL ?_
                (case aR=>exact (Kd.R_reads' (Kd.R_below HO428.out HX.out)).2.2)
                (case aB=>exact HX.out)
                (case aF=>exact (fun k_ hk=>Kd.fresh' (Kd.R_lt HOc.out) k_ hk))
                (case aO=>exact Kd.R_mono HOa.out (fun _ hk=>hk.2))
                (case aS=>exact HX.out.size)
                (case aL=>have:=LY1.out;omega)
                intro v97 wc_ ho hb hg hat
                rw [←Ny1.out] at ho
                have HOc:=a_ (Kd.R_after (ok:=fun _=>True) HOc.out hg hat)
                have HX:=a_ hb
                have HOb:=a_ ho
                clear ho hb hg hat
                refine hK.out _ _ (hHold_.out _ HX.out) (fun hHeld=>?_)
                clear hK K
                refine norm_ (a':=?_) ?_ ?_
                rotate_left
                ·show Act.put _ (some 97) _=_
                 simp only [Act.put,List.setIfInBounds_toArray,List.set_cons_zero,List.set_cons_succ,i64_w,i32_w]
                 rfl
                exact norm_ (by simp only [putAll,Act.put,List.setIfInBounds_toArray,List.set_cons_zero,List.set_cons_succ]) (hCont (v95,v97,v99) _ ⟨hHeld,HOb.out,Kd.R_mono HOc.out (fun _ hk=>hk.2),HX.out⟩)
              ·skip
               refine Kd.R_lit_step (Kd.int .i64) _ 3 ?hg (N:=99) ?hd (xs:=([t398]:List Int)) (inner:=[.int .i64 t398]) (ok:=fun _=>True) (okp:=fun _=>True) ?hr ?hp (fun _ hk=>hk) trivial (Below.refl _ _) (Nat.le_refl _) (by simp) ?_;(case hd=>rfl);(case hg=>rfl);(case hr=>first|(go_simp;done)|(go_simp;rfl));(case hp=>exact (Reps.one (show Kd.M (Kd.int .i64) _ _ _ t398 [.int .i64 t398] from rfl) (Reps.none _ _)))
               intro v99 wa_ ho hb hg_ hnew_
               clear hg_ hnew_
               (first|rw [←Ny2.out] at ho|(simp only [Int.reduceToNat] at ho;rw [←Ny2.out] at ho))
               have HOc:=a_ ho
               have HX:=a_ hb
               clear ho hb
               refine hK.out _ _ (hHold_.out _ HX.out) (fun hHeld=>?_)
               clear hK K
               refine norm_ (a':=?_) ?_ ?_
               rotate_left
               ·show Act.put _ (some 99) _=_
                simp only [Act.put,List.setIfInBounds_toArray,List.set_cons_zero,List.set_cons_succ,i64_w,i32_w]
                rfl
               refine one_ (i:=9) (N:=some 95) #[true,true,true,true,true,true,true,true,true,true,true,false,true,true,false,false,false,false,false,false,false,false,false,false,false,false,false,false,false,false,false,false,false,false,false,false] rfl rfl (one_of HT_.out (by kernel_rfl)) (by decide) (fun K hK=>?_)
               refine Kd.R_lit_step (Kd.int .i64) _ 3 ?hg (N:=95) ?hd (xs:=([]:List Int)) (inner:=[]) (ok:=fun _=>True) (okp:=fun _=>True) ?hr ?hp (fun _ hk=>hk) trivial (Below.refl _ _) (Nat.le_refl _) (by simp) ?_;(case hd=>rfl);(case hg=>rfl);(case hr=>first|(go_simp;done)|(go_simp;rfl));(case hp=>exact (Reps.none _ _))
               intro v95 wb_ ho hb hg_ hnew_
               clear hg_ hnew_
               (first|rw [←Ny0.out] at ho|(simp only [Int.reduceToNat] at ho;rw [←Ny0.out] at ho))
               have HOa:=a_ (Kd.R_lower (Kd.R_new' ho (Kd.R_lt HOc.out)) HX.out.size)
               have HOc:=a_ (Kd.R_elder' HOc.out (Kd.R_base ho) hb)
               have HX:=a_ (bS_ HX.out hb)
               clear ho hb
               refine hK.out _ _ (hHold_.out _ HX.out) (fun hHeld=>?_)
               clear hK K
               refine norm_ (a':=?_) ?_ ?_
               rotate_left
               ·show Act.put _ (some 95) _=_
                simp only [Act.put,List.setIfInBounds_toArray,List.set_cons_zero,List.set_cons_succ,i64_w,i32_w]
                rfl
               refine one_ (i:=11) (N:=some 97) #[true,true,true,true,true,true,true,true,true,true,true,true,true,true,false,false,false,false,false,false,false,false,false,false,false,false,false,false,false,false,false,false,false,false,false,false] rfl rfl (one_of HT_.out (by kernel_rfl)) (by decide) (fun K hK=>?_)
               refine Kd.R_append_rows_step (Kd.int .i64) (w0:=w57) w57.heap.size (by rfl) (.tmp 95) (.tmp 96) 43 3 (.int .i64 0) 8 rfl Tryd.underlying43 info3 rfl (by decide) (by omega) v95 y0 t426 _ _ _ (fun k_=>some k_≠(v99:Value).ownBlock) (fun _=>False) rfl rfl ?aO ?aR (fun _ _ h=>h) (fun _ h=>h.elim) ?aF ?aB ?aS ?aL ?_
               (case aR=>exact (Kd.R_reads' (Kd.R_below HO428.out HX.out)).2.2)
               (case aB=>exact HX.out)
               (case aF=>exact (fun k_ hk=>Kd.fresh' (Kd.R_lt HOc.out) k_ hk))
               (case aO=>exact Kd.R_mono HOa.out (fun _ hk=>hk.2))
               (case aS=>exact HX.out.size)
               (case aL=>have:=LY1.out;omega)
               intro v97 wc_ ho hb hg hat
               rw [←Ny1.out] at ho
               have HOc:=a_ (Kd.R_after (ok:=fun _=>True) HOc.out hg hat)
               have HX:=a_ hb
               have HOb:=a_ ho
               clear ho hb hg hat
               refine hK.out _ _ (hHold_.out _ HX.out) (fun hHeld=>?_)
               clear hK K
               refine norm_ (a':=?_) ?_ ?_
               rotate_left
               ·show Act.put _ (some 97) _=_
                simp only [Act.put,List.setIfInBounds_toArray,List.set_cons_zero,List.set_cons_succ,i64_w,i32_w]
                rfl
               exact norm_ (by simp only [putAll,Act.put,List.setIfInBounds_toArray,List.set_cons_zero,List.set_cons_succ]) (hCont (v95,v97,v99) _ ⟨hHeld,HOb.out,Kd.R_mono HOc.out (fun _ hk=>hk.2),HX.out⟩)
             rintro ⟨v95,v97,v99⟩ w58 ⟨hS_,h0_,h1_,h2_⟩
             have HOb:Aside0 (Kd.R (Kd.int .i64) 3 w58 w57.heap.size (fun k_=>some k_≠(v99:Value).ownBlock) v97 y1):=⟨h0_⟩
             have HOc:Aside0 (Kd.R (Kd.int .i64) 3 w58 w57.heap.size (fun k_=>some k_≠(v97:Value).ownBlock) v99 y2):=⟨h1_⟩
             have HX:Aside0 (Below w57.heap.size w57 w58):=⟨h2_⟩
             clear h0_ h1_ h2_
             have hHeld:w58.cell? ⟨gb414,0,none⟩=some (.int .i64 t408)∧w58.cell? ⟨gb414,1,none⟩=some (.int .i64 t409)∧w58.cell? ⟨gb414,2,none⟩=some (.int .i64 t410)∧w58.cell? ⟨gb414,3,none⟩=some (.int .i64 t411)∧w58.cell? ⟨gb414,4,none⟩=some (.string t412)∧w58.cell? (ad432.add ((t431).toNat * 3))=some (.int .i64 ((rd_T37 t418 t431).f0))∧w58.cell? ⟨(ad432.add ((t431).toNat * 3)).block,(ad432.add ((t431).toNat * 3)).off+1,none⟩=some (.int .i64 ((rd_T37 t418 t431).f1))∧w58.cell? ⟨(ad432.add ((t431).toNat * 3)).block,(ad432.add ((t431).toNat * 3)).off+2,none⟩=some (.string ((rd_T37 t418 t431).f2))∧w58.cell? (ad434.add ((t433).toNat * 3))=some (.int .i64 ((rd_T37 t397 t433).f0))∧w58.cell? ⟨(ad434.add ((t433).toNat * 3)).block,(ad434.add ((t433).toNat * 3)).off+1,none⟩=some (.int .i64 ((rd_T37 t397 t433).f1))∧w58.cell? ⟨(ad434.add ((t433).toNat * 3)).block,(ad434.add ((t433).toNat * 3)).off+2,none⟩=some (.string ((rd_T37 t397 t433).f2)):=hS_
             clear hS_
             obtain ⟨Ao91,co91,eo91⟩:=Kd.R_slice HOc.out
             subst eo91
             refine norm_ (a':=?_) ?_ ?_
             rotate_left
             ·simp only [putAll,Act.put,List.setIfInBounds_toArray,List.set_cons_zero,List.set_cons_succ]
              rfl
             refine one_ (i:=14) (N:=some 100) #[true,true,true,true,true,true,true,true,true,true,true,true,true,true,true,false,false,false,false,false,false,false,false,false,false,false,false,false,false,false,false,false,false,false,false,false] rfl rfl (one_of HT_.out (by kernel_rfl)) (by decide) (fun K hK=>?_)
             refine Kd.R_append_rows_step (Kd.int .i64) (w0:=w57) w57.heap.size (by rfl) (.tmp 97) (.tmp 99) 43 3 (.int .i64 0) 8 rfl Tryd.underlying43 info3 rfl (by decide) (by omega) v97 y1 y2 _ _ _ (fun k_=>some k_≠(.slice Ao91 y2.length co91:Value).ownBlock) (fun _=>False) rfl rfl ?aO ?aR (fun _ _ h=>h) (fun _ h=>h.elim) ?aF ?aB ?aS ?aL ?_
             (case aR=>exact (Kd.R_reads' HOc.out).2.2)
             (case aB=>exact HX.out)
             (case aF=>exact (fun k_ hk=>Kd.fresh' (Kd.R_lt HOc.out) k_ hk))
             (case aO=>exact HOb.out)
             (case aS=>exact HX.out.size)
             (case aL=>have:=LY3.out;omega)
             intro v100 w59 ho hb hg hat
             rw [←Ny3.out] at ho
             have HO500:=a_ ho
             have n0_:=a_ (Kd.Q_below HO_3.out hb)
             have n1_:=a_ (Kd.R_below HO420.out hb)
             have n2_:=a_ (Kd.R_below HO425.out hb)
             have n4_:=a_ (blk_below BK407.out hb)
             have n5_:=a_ (blk_below BK414.out hb)
             have n6_:=a_ (bS_ HB.out hb)
             have hH_:=hHold_.out _ hb
             clear HO_3 HO420 HO425 HO428 BK407 BK414 HB HX HOb HOc
             have HO_3:=n0_
             have HO420:=n1_
             have HO425:=n2_
             have BK407:=n4_
             have BK414:=n5_
             have HB:=n6_
             clear n0_ n1_ n2_ n4_ n5_ n6_ ho hb hg hat
             obtain ⟨Ao92,co92,eo92⟩:=Kd.R_slice HO500.out
             subst eo92
             refine hK.out _ _ hH_ (fun hHeld=>?_)
             clear hH_ hHold_
             clear hK K
             refine norm_ (a':=?_) ?_ ?_
             rotate_left
             ·show Act.put _ (some 100) _=_
              simp only [Act.put,List.setIfInBounds_toArray,List.set_cons_zero,List.set_cons_succ,i64_w,i32_w]
              rfl
             refine one_ (i:=15) (N:=some 101) #[true,true,true,true,true,true,true,true,true,true,true,true,true,true,true,true,false,false,false,false,false,false,false,false,false,false,false,false,false,false,false,false,false,false,false,false] rfl rfl (one_of HT_.out (by kernel_rfl)) (by decide) (fun K hK=>?_)
             refine goes_ Tryd.func38 (by kernel_rfl) rfl #[.slice Ao58 t423.length co58,.slice Ao92 y3.length co92] (by rfl) rfl rfl (by (try simp only [List.map_toArray,List.map_cons,List.map_nil]);first|done|rfl|(simp only [List.length_drop,List.length_take];rfl)) ?_
             with_reducible refine (laws_lpInts.calls kj5 _ _ t423 _ _ y3 true _ ?side1 ?side2 ?side3 ?side4 (by rw [E3.out];exact A40.out)).mono ?_
             (case side1=>repeat (first|exact (Kd.R_reads' HO425.out).2.2|(with_reducible refine Kd.C_alloc ?_ _)|(with_reducible refine Kd.C_drewN ?_ _)|(with_reducible refine Kd.C_drew ?_)))
             (case side2=>exact (Kd.R_reads' HO425.out).2.1)
             (case side3=>repeat (first|exact (Kd.R_reads' HO500.out).2.2|(with_reducible refine Kd.C_alloc ?_ _)|(with_reducible refine Kd.C_drewN ?_ _)|(with_reducible refine Kd.C_drew ?_)))
             (case side4=>exact (Kd.R_reads' HO500.out).2.1)
             rintro e w' ⟨rfl,⟨nd,rfl⟩⟩
             refine ⟨_,rfl,?_⟩
             refine hK.out _ _ ⟨(bC_ BK414.out 0).trans rfl,(bC_ BK414.out 1).trans rfl,(bC_ BK414.out 2).trans rfl,(bC_ BK414.out 3).trans rfl,(bC_ BK414.out 4).trans rfl,hHeld.2.2.2.2.2.1,hHeld.2.2.2.2.2.2.1,hHeld.2.2.2.2.2.2.2.1,hHeld.2.2.2.2.2.2.2.2.1,hHeld.2.2.2.2.2.2.2.2.2.1,hHeld.2.2.2.2.2.2.2.2.2.2⟩ (fun hHeld=>?_)
             clear hK K
             refine norm_ (a':=?_) ?_ ?_
             rotate_left
             ·show Act.put _ (some 101) _=_
              simp only [Act.put,List.setIfInBounds_toArray,List.set_cons_zero,List.set_cons_succ,i64_w,i32_w]
              rfl
             refine pure_ (i:=16) (N:=some 102) (v:=?_) (a':=?_) #[true,true,true,true,true,true,true,true,true,true,true,true,true,true,true,true,true,false,false,false,false,false,false,false,false,false,false,false,false,false,false,false,false,false,false,false] rfl rfl (any_of HT_.out (by kernel_rfl)) (fun _ _ _ h=>h) (Or.inl ⟨by rfl,?_⟩) ?_ ?_
             rotate_left
             ·intro w'
              go_simp
              with_reducible rfl
             rotate_left
             ·simp only [Act.put,List.setIfInBounds_toArray,List.set_cons_zero,List.set_cons_succ,i64_w,i32_w]
              rfl
             refine pure_ (i:=17) (N:=some 103) (v:=?_) (a':=?_) #[true,true,true,true,true,true,true,true,true,true,true,true,true,true,true,true,true,true,false,false,false,false,false,false,false,false,false,false,false,false,false,false,false,false,false,false] rfl rfl (any_of HT_.out (by kernel_rfl)) (fun _ _ _ h=>h) (Or.inl ⟨by rfl,?_⟩) ?_ ?_
             rotate_left
             ·intro w'
              go_simp
              with_reducible rfl
             rotate_left
             ·simp only [Act.put,List.setIfInBounds_toArray,List.set_cons_zero,List.set_cons_succ,i64_w,i32_w]
              rfl
             refine pure_ (i:=18) (N:=some 104) (v:=?_) (a':=?_) #[true,true,true,true,true,true,true,true,true,true,true,true,true,true,true,true,true,true,true,false,false,false,false,false,false,false,false,false,false,false,false,false,false,false,false,false] rfl rfl (any_of HT_.out (by kernel_rfl)) (fun _ _ _ h=>h) (Or.inl ⟨by rfl,?_⟩) ?_ ?_
             rotate_left
             ·intro w'
              go_simp
              with_reducible rfl
             rotate_left
             ·simp only [Act.put,List.setIfInBounds_toArray,List.set_cons_zero,List.set_cons_succ,i64_w,i32_w]
              rfl
             refine pure_ (i:=19) (N:=some 105) (v:=?_) (a':=?_) #[true,true,true,true,true,true,true,true,true,true,true,true,true,true,true,true,true,true,true,true,false,false,false,false,false,false,false,false,false,false,false,false,false,false,false,false] rfl rfl (any_of HT_.out (by kernel_rfl)) (fun _ _ _ h=>h) (Or.inl ⟨by rfl,?_⟩) ?_ ?_
             rotate_left
             ·intro w'
              go_simp
              with_reducible rfl
             rotate_left
             ·simp only [Act.put,List.setIfInBounds_toArray,List.set_cons_zero,List.set_cons_succ,i64_w,i32_w]
              rfl
             refine pure_ (i:=20) (N:=some 106) (v:=?_) (a':=?_) #[true,true,true,true,true,true,true,true,true,true,true,true,true,true,true,true,true,true,true,true,true,false,false,false,false,false,false,false,false,false,false,false,false,false,false,false] rfl rfl (any_of HT_.out (by kernel_rfl)) (fun _ _ _ h=>h) (Or.inl ⟨by rfl,?_⟩) ?_ ?_
             rotate_left
             ·intro w'
              go_simp
              with_reducible rfl
             rotate_left
             ·simp only [Act.put,List.setIfInBounds_toArray,List.set_cons_zero,List.set_cons_succ,i64_w,i32_w]
              rfl
             refine pure_ (i:=25) (N:=some 111) (v:=?_) (a':=?_) #[true,true,true,true,true,true,true,true,true,true,true,true,true,true,true,true,true,true,true,true,true,false,false,false,false,true,false,false,false,false,false,false,false,false,false,false] rfl rfl (any_of HT_.out (by kernel_rfl)) (fun _ _ _ h=>h) (Or.inl ⟨by rfl,?_⟩) ?_ ?_
             rotate_left
             ·intro w'
              go_simp
              with_reducible rfl
             rotate_left
             ·simp only [Act.put,List.setIfInBounds_toArray,List.set_cons_zero,List.set_cons_succ,i64_w,i32_w]
              rfl
             refine pure_ (i:=26) (N:=some 112) (v:=?_) (a':=?_) #[true,true,true,true,true,true,true,true,true,true,true,true,true,true,true,true,true,true,true,true,true,false,false,false,false,true,true,false,false,false,false,false,false,false,false,false] rfl rfl (any_of HT_.out (by kernel_rfl)) (fun _ _ _ h=>h) (Or.inl ⟨by rfl,?_⟩) ?_ ?_
             rotate_left
             ·intro w'
              go_simp
              with_reducible rfl
             rotate_left
             ·simp only [Act.put,List.setIfInBounds_toArray,List.set_cons_zero,List.set_cons_succ,i64_w,i32_w]
              rfl
             refine pure_ (i:=27) (N:=some 113) (v:=?_) (a':=?_) #[true,true,true,true,true,true,true,true,true,true,true,true,true,true,true,true,true,true,true,true,true,false,false,false,false,true,true,true,false,false,false,false,false,false,false,false] rfl rfl (any_of HT_.out (by kernel_rfl)) (fun _ _ _ h=>h) (Or.inl ⟨by rfl,?_⟩) ?_ ?_
             rotate_left
             ·intro w'
              go_simp
              with_reducible rfl
             rotate_left
             ·simp only [Act.put,List.setIfInBounds_toArray,List.set_cons_zero,List.set_cons_succ,i64_w,i32_w]
              rfl
             refine one_ (i:=21) (N:=some 107) #[true,true,true,true,true,true,true,true,true,true,true,true,true,true,true,true,true,true,true,true,true,true,false,false,false,true,true,true,false,false,false,false,false,false,false,false] rfl rfl (one_of HT_.out (by kernel_rfl)) (by decide) (fun K hK=>?_)
             refine goes_ Tryd.func21 (by kernel_rfl) rfl #[.slice (some ad432) t418.length co52,.int .i64 t398] (by rfl) rfl rfl (by (try simp only [List.map_toArray,List.map_cons,List.map_nil]);first|done|rfl|(simp only [List.length_drop,List.length_take];rfl)) ?_
             with_reducible refine (laws_lpAt.calls kj5 _ _ t418 t398 t431 _ ?side1 ?side2 A42.out).mono ?_
             (case side1=>repeat (first|exact (Kd.R_reads' HO420.out).2.2|(with_reducible refine Kd.C_alloc ?_ _)|(with_reducible refine Kd.C_drewN ?_ _)|(with_reducible refine Kd.C_drew ?_)))
             (case side2=>exact (Kd.R_reads' HO420.out).2.1)
             rintro e w' ⟨rfl,⟨nd,rfl⟩⟩
             refine ⟨_,rfl,?_⟩
             refine hK.out _ _ ⟨(bC_ BK414.out 0).trans rfl,(bC_ BK414.out 1).trans rfl,(bC_ BK414.out 2).trans rfl,(bC_ BK414.out 3).trans rfl,(bC_ BK414.out 4).trans rfl,hHeld.2.2.2.2.2.1,hHeld.2.2.2.2.2.2.1,hHeld.2.2.2.2.2.2.2.1,hHeld.2.2.2.2.2.2.2.2.1,hHeld.2.2.2.2.2.2.2.2.2.1,hHeld.2.2.2.2.2.2.2.2.2.2⟩ (fun hHeld=>?_)
             clear hK K
             refine norm_ (a':=?_) ?_ ?_
             rotate_left
             ·show Act.put _ (some 107) _=_
              simp only [Act.put,List.setIfInBounds_toArray,List.set_cons_zero,List.set_cons_succ,i64_w,i32_w]
              rfl
             refine pure_ (i:=22) (N:=some 108) (v:=?_) (a':=?_) #[true,true,true,true,true,true,true,true,true,true,true,true,true,true,true,true,true,true,true,true,true,true,true,false,false,true,true,true,false,false,false,false,false,false,false,false] rfl rfl (any_of HT_.out (by kernel_rfl)) (fun _ _ _ h=>h) (Or.inl ⟨by rfl,?_⟩) ?_ ?_
             rotate_left
             ·intro w'
              go_simp
              with_reducible rfl
             rotate_left
             ·simp only [Act.put,List.setIfInBounds_toArray,List.set_cons_zero,List.set_cons_succ,i64_w,i32_w]
              rfl
             refine pure_ (i:=23) (N:=some 109) (v:=?_) (a':=?_) #[true,true,true,true,true,true,true,true,true,true,true,true,true,true,true,true,true,true,true,true,true,true,true,true,false,true,true,true,false,false,false,false,false,false,false,false] rfl rfl (any_of HT_.out (by kernel_rfl)) (fun _ _ _ h=>h) (Or.inl ⟨by rfl,?_⟩) ?_ ?_
             rotate_left
             ·intro w'
              go_simp
              with_reducible rfl
             rotate_left
             ·simp only [Act.put,List.setIfInBounds_toArray,List.set_cons_zero,List.set_cons_succ,i64_w,i32_w]
              rfl
             refine take_ (i:=24) (N:=some 110) (v:=?_) (a':=?_) #[true,true,true,true,true,true,true,true,true,true,true,true,true,true,true,true,true,true,true,true,true,true,true,true,true,true,true,true,false,false,false,false,false,false,false,false] rfl rfl (take_ofW HT_.out HW_.out (by kernel_rfl)) (fun _ _ _ h=>h) (Or.inl ⟨by rfl,?_⟩) hHeld ?_ ?_
             rotate_left
             ·rintro w' ⟨s0,s1,s2,s3,s4,s5,s6,s7,s8,s9,s10⟩
              go_simp
              with_reducible rfl
             rotate_left
             ·simp only [Act.put,List.setIfInBounds_toArray,List.set_cons_zero,List.set_cons_succ,i64_w,i32_w]
              rfl
             refine one_ (i:=28) (N:=some 114) #[true,true,true,true,true,true,true,true,true,true,true,true,true,true,true,true,true,true,true,true,true,true,true,true,true,true,true,true,true,false,false,false,false,false,false,false] rfl rfl (one_of HT_.out (by kernel_rfl)) (by decide) (fun K hK=>?_)
             refine goes_ Tryd.func21 (by kernel_rfl) rfl #[.slice (some ad434) t397.length co8,.int .i64 t398] (by rfl) rfl rfl (by (try simp only [List.map_toArray,List.map_cons,List.map_nil]);first|done|rfl|(simp only [List.length_drop,List.length_take];rfl)) ?_
             with_reducible refine (laws_lpAt.calls kj5 _ _ t397 t398 t433 _ ?side1 ?side2 A45.out).mono ?_
             (case side1=>repeat (first|exact (Kd.Q_reads' HO_3.out).2.2|(with_reducible refine Kd.C_alloc ?_ _)|(with_reducible refine Kd.C_drewN ?_ _)|(with_reducible refine Kd.C_drew ?_)))
             (case side2=>exact (Kd.Q_reads' HO_3.out).2.1)
             rintro e w' ⟨rfl,⟨nd,rfl⟩⟩
             refine ⟨_,rfl,?_⟩
             refine hK.out _ _ ⟨(bC_ BK414.out 0).trans rfl,(bC_ BK414.out 1).trans rfl,(bC_ BK414.out 2).trans rfl,(bC_ BK414.out 3).trans rfl,(bC_ BK414.out 4).trans rfl,hHeld.2.2.2.2.2.1,hHeld.2.2.2.2.2.2.1,hHeld.2.2.2.2.2.2.2.1,hHeld.2.2.2.2.2.2.2.2.1,hHeld.2.2.2.2.2.2.2.2.2.1,hHeld.2.2.2.2.2.2.2.2.2.2⟩ (fun hHeld=>?_)
             clear hK K
             refine norm_ (a':=?_) ?_ ?_
             rotate_left
             ·show Act.put _ (some 114) _=_
              simp only [Act.put,List.setIfInBounds_toArray,List.set_cons_zero,List.set_cons_succ,i64_w,i32_w]
              rfl
             refine pure_ (i:=29) (N:=some 115) (v:=?_) (a':=?_) #[true,true,true,true,true,true,true,true,true,true,true,true,true,true,true,true,true,true,true,true,true,true,true,true,true,true,true,true,true,true,false,false,false,false,false,false] rfl rfl (any_of HT_.out (by kernel_rfl)) (fun _ _ _ h=>h) (Or.inl ⟨by rfl,?_⟩) ?_ ?_
             rotate_left
             ·intro w'
              go_simp
              with_reducible rfl
             rotate_left
             ·simp only [Act.put,List.setIfInBounds_toArray,List.set_cons_zero,List.set_cons_succ,i64_w,i32_w]
              rfl
             refine pure_ (i:=30) (N:=some 116) (v:=?_) (a':=?_) #[true,true,true,true,true,true,true,true,true,true,true,true,true,true,true,true,true,true,true,true,true,true,true,true,true,true,true,true,true,true,true,false,false,false,false,false] rfl rfl (any_of HT_.out (by kernel_rfl)) (fun _ _ _ h=>h) (Or.inl ⟨by rfl,?_⟩) ?_ ?_
             rotate_left
             ·intro w'
              go_simp
              with_reducible rfl
             rotate_left
             ·simp only [Act.put,List.setIfInBounds_toArray,List.set_cons_zero,List.set_cons_succ,i64_w,i32_w]
              rfl
             refine take_ (i:=31) (N:=some 117) (v:=?_) (a':=?_) #[true,true,true,true,true,true,true,true,true,true,true,true,true,true,true,true,true,true,true,true,true,true,true,true,true,true,true,true,true,true,true,true,false,false,false,false] rfl rfl (take_ofW HT_.out HW_.out (by kernel_rfl)) (fun _ _ _ h=>h) (Or.inl ⟨by rfl,?_⟩) hHeld ?_ ?_
             rotate_left
             ·rintro w' ⟨s0,s1,s2,s3,s4,s5,s6,s7,s8,s9,s10⟩
              go_simp
              with_reducible rfl
             rotate_left
             ·simp only [Act.put,List.setIfInBounds_toArray,List.set_cons_zero,List.set_cons_succ,i64_w,i32_w]
              rfl
             refine pure_ (i:=32) (N:=some 118) (v:=?_) (a':=?_) #[true,true,true,true,true,true,true,true,true,true,true,true,true,true,true,true,true,true,true,true,true,true,true,true,true,true,true,true,true,true,true,true,true,false,false,false] rfl rfl (any_of HT_.out (by kernel_rfl)) (fun _ _ _ h=>h) (Or.inl ⟨by rfl,?_⟩) ?_ ?_
             rotate_left
             ·intro w'
              go_simp
              with_reducible rfl
             rotate_left
             ·simp only [Act.put,List.setIfInBounds_toArray,List.set_cons_zero,List.set_cons_succ,i64_w,i32_w]
              rfl
             refine pure_ (i:=33) (N:=some 119) (v:=?_) (a':=?_) #[true,true,true,true,true,true,true,true,true,true,true,true,true,true,true,true,true,true,true,true,true,true,true,true,true,true,true,true,true,true,true,true,true,true,false,false] rfl rfl (any_of HT_.out (by kernel_rfl)) (fun _ _ _ h=>h) (Or.inl ⟨by rfl,?_⟩) ?_ ?_
             rotate_left
             ·intro w'
              go_simp
              with_reducible rfl
             rotate_left
             ·simp only [Act.put,List.setIfInBounds_toArray,List.set_cons_zero,List.set_cons_succ,i64_w,i32_w]
              rfl
             refine pure_ (i:=34) (N:=some 120) (v:=?_) (a':=?_) #[true,true,true,true,true,true,true,true,true,true,true,true,true,true,true,true,true,true,true,true,true,true,true,true,true,true,true,true,true,true,true,true,true,true,true,false] rfl rfl (any_of HT_.out (by kernel_rfl)) (fun _ _ _ h=>h) (Or.inl ⟨by rfl,?_⟩) ?_ ?_
             rotate_left
             ·intro w'
              go_simp
              with_reducible rfl
             rotate_left
             ·simp only [Act.put,List.setIfInBounds_toArray,List.set_cons_zero,List.set_cons_succ,i64_w,i32_w]
              rfl
             refine pure_ (i:=35) (N:=some 2) (v:=?_) (a':=?_) #[true,true,true,true,true,true,true,true,true,true,true,true,true,true,true,true,true,true,true,true,true,true,true,true,true,true,true,true,true,true,true,true,true,true,true,true] rfl rfl (any_of HT_.out (by kernel_rfl)) (fun _ _ _ h=>h) (Or.inl ⟨by rfl,?_⟩) ?_ ?_
             rotate_left
             ·intro w'
              go_simp
              with_reducible rfl
             rotate_left
             ·simp only [Act.put,List.setIfInBounds_toArray,List.set_cons_zero,List.set_cons_succ,i64_w,i32_w]
              rfl
             refine done_ (done_of HT_.out (by kernel_rfl)) ?_
             try go_wp2
             go_ret
             exact ⟨by first|rfl|(simp [errW_none,errW_some] <;> rfl)|(simp [*,errW_none,errW_some] <;> rfl),by repeat (first|(with_reducible first|exact HB.out|apply wA_|apply pw_below_drewN|apply below_drew1|refine wS_ ?_ GE407.out|refine wS_ ?_ GE414.out)|exact HB.out)⟩
            ·rw [if_neg c47] at H
             exact absurd H (by simp)
           ·rw [if_neg c46] at H
            exact absurd H (by simp)
          ·rw [if_neg c44] at H
           exact absurd H (by simp)
         ·rw [if_neg c43] at H
          exact absurd H (by simp)
        ·replace c41:=Bool.eq_false_iff.mpr c41
         subst c41
         have H1:(none)=some r:=by rw [if_neg (show ¬ (false=true) by decide)] at H;exact H
         clear H
         have H:=H1
         clear H1
         exact absurd H (by simp)
       ·rw [if_neg c39] at H
        have c39b0:(t421==t416)=false:=bn_ c39
        have c39b1:(t421 != t416)=true:=bne_iff_ne.mpr c39
        exact absurd H (by simp)
      ·replace c38:=Bool.eq_false_iff.mpr c38
       subst c38
       have H1:(none)=some r:=by rw [if_neg (show ¬ (false=true) by decide)] at H;exact H
       clear H
       have H:=H1
       clear H1
       exact absurd H (by simp)
     ·replace c32:=Bool.eq_false_iff.mpr c32
      subst c32
      have H1:(if t417=true then (some (t416==0)) else (some true))=some r:=by rw [if_neg (show ¬ (false=true) by decide)] at H;exact H
      clear H
      have H:=H1
      clear H1
      by_cases c60:t417=true
      ·subst c60
       have H1:(some (t416==0))=some r:=by rw [if_pos rfl] at H;exact H
       clear H
       have H:=H1
       clear H1
       obtain rfl:=sj_ H
       go_wp2_with (first|((with_reducible refine gC_ (f:=35) rfl ?_);refine goesL_ (some 60) rfl rfl Tryd.func35 (by kernel_rfl) rfl #[.slice Ao8 t397.length co8,.int .i64 t398] rfl (by (try simp only [List.map_toArray,List.map_cons,List.map_nil]);first|done|rfl|(simp only [List.length_drop,List.length_take];rfl)) ?_;(with_reducible refine (impl_TreeAhead.calls kj5 _ _ t397 t398 t416 true _ ?side1 ?side2 A31.out ?side3).mono ?_);(case side1=>repeat (first|exact (Kd.Q_reads' HO_3.out).2.2|(with_reducible refine Kd.C_alloc ?_ _)|(with_reducible refine Kd.C_drewN ?_ _)|(with_reducible refine Kd.C_drew ?_)));(case side2=>exact (Kd.Q_reads' HO_3.out).2.1);(case side3=>exact Glob.below HG.out (by repeat (first|(with_reducible first|exact HB.out|apply wA_|apply pw_below_drewN|apply below_drew1|refine wS_ ?_ GE407.out|refine wS_ ?_ GE414.out)|exact HB.out)));rintro e w61 ⟨rfl,hb⟩;refine ⟨_,rfl,?_⟩;have n0_:=a_ (Kd.Q_below (by (with_reducible repeat (first|apply Kd.Q_alloc|apply Kd.Q_drewN|apply Kd.Q_drew));exact HO_3.out) hb);have n1_:=a_ (blk_below (g:=gb407) (o:=.cells #[.int .i64 t401,.int .i64 t402,.int .i64 t403,.int .i64 t404,.string t405] 27 (0,0)) (by (with_reducible repeat (first|refine bN_ ?_ _|refine bD_ ?_|refine bA_ ?_ _));exact BK407.out) hb);have n2_:=a_ (blk_below (g:=gb414) (o:=.cells #[.int .i64 t408,.int .i64 t409,.int .i64 t410,.int .i64 t411,.string t412] 27 (0,0)) (by (with_reducible repeat (first|refine bN_ ?_ _|refine bD_ ?_|refine bA_ ?_ _));exact BK414.out) hb);have n3_:=a_ (bS_ (by repeat (first|(with_reducible first|exact HB.out|apply wA_|apply pw_below_drewN|apply below_drew1|refine wS_ ?_ GE407.out|refine wS_ ?_ GE414.out)|exact HB.out)) hb);clear HO_3;clear BK407;clear BK414;clear HB;have HO_3:=n0_;have BK407:=n1_;have BK414:=n2_;have HB:=n3_;clear n0_ n1_ n2_ n3_;(try clear hb);(try clear hb2);(try clear hk);(try clear hi)))
       go_ret
       exact ⟨by first|rfl|(simp [errW_none,errW_some] <;> rfl)|(simp [*,errW_none,errW_some] <;> rfl),by repeat (first|(with_reducible first|exact HB.out|apply wA_|apply pw_below_drewN|apply below_drew1|refine wS_ ?_ GE407.out|refine wS_ ?_ GE414.out)|exact HB.out)⟩
      ·replace c60:=Bool.eq_false_iff.mpr c60
       subst c60
       have H1:(some true)=some r:=by rw [if_neg (show ¬ (false=true) by decide)] at H;exact H
       clear H
       have H:=H1
       clear H1
       obtain rfl:=sj_ H
       go_wp2_with (first|((with_reducible refine gC_ (f:=35) rfl ?_);refine goesL_ (some 60) rfl rfl Tryd.func35 (by kernel_rfl) rfl #[.slice Ao8 t397.length co8,.int .i64 t398] rfl (by (try simp only [List.map_toArray,List.map_cons,List.map_nil]);first|done|rfl|(simp only [List.length_drop,List.length_take];rfl)) ?_;(with_reducible refine (impl_TreeAhead.calls kj5 _ _ t397 t398 t416 false _ ?side1 ?side2 A31.out ?side3).mono ?_);(case side1=>repeat (first|exact (Kd.Q_reads' HO_3.out).2.2|(with_reducible refine Kd.C_alloc ?_ _)|(with_reducible refine Kd.C_drewN ?_ _)|(with_reducible refine Kd.C_drew ?_)));(case side2=>exact (Kd.Q_reads' HO_3.out).2.1);(case side3=>exact Glob.below HG.out (by repeat (first|(with_reducible first|exact HB.out|apply wA_|apply pw_below_drewN|apply below_drew1|refine wS_ ?_ GE407.out|refine wS_ ?_ GE414.out)|exact HB.out)));rintro e w62 ⟨rfl,hb⟩;refine ⟨_,rfl,?_⟩;have n0_:=a_ (Kd.Q_below (by (with_reducible repeat (first|apply Kd.Q_alloc|apply Kd.Q_drewN|apply Kd.Q_drew));exact HO_3.out) hb);have n1_:=a_ (blk_below (g:=gb407) (o:=.cells #[.int .i64 t401,.int .i64 t402,.int .i64 t403,.int .i64 t404,.string t405] 27 (0,0)) (by (with_reducible repeat (first|refine bN_ ?_ _|refine bD_ ?_|refine bA_ ?_ _));exact BK407.out) hb);have n2_:=a_ (blk_below (g:=gb414) (o:=.cells #[.int .i64 t408,.int .i64 t409,.int .i64 t410,.int .i64 t411,.string t412] 27 (0,0)) (by (with_reducible repeat (first|refine bN_ ?_ _|refine bD_ ?_|refine bA_ ?_ _));exact BK414.out) hb);have n3_:=a_ (bS_ (by repeat (first|(with_reducible first|exact HB.out|apply wA_|apply pw_below_drewN|apply below_drew1|refine wS_ ?_ GE407.out|refine wS_ ?_ GE414.out)|exact HB.out)) hb);clear HO_3;clear BK407;clear BK414;clear HB;have HO_3:=n0_;have BK407:=n1_;have BK414:=n2_;have HB:=n3_;clear n0_ n1_ n2_ n3_;(try clear hb);(try clear hb2);(try clear hk);(try clear hi)))
       go_ret
       exact ⟨by first|rfl|(simp [errW_none,errW_some] <;> rfl)|(simp [*,errW_none,errW_some] <;> rfl),by repeat (first|(with_reducible first|exact HB.out|apply wA_|apply pw_below_drewN|apply below_drew1|refine wS_ ?_ GE407.out|refine wS_ ?_ GE414.out)|exact HB.out)⟩

def laws_FnKeyIn.Pure:Prop:=∀ (l0:List Int),l0.length≤maxLen→l0.length * 1≤140737488351232→(∀ x∈l0,(Lit.int .u8 x).wf=true)→∃ k,laws_FnKeyIn.f k l0=some true
theorem laws_FnKeyIn.walk (P:laws_FnKeyIn.Pure) (a0:Option Addr) (len0 cap0:Nat) (z0:List Int) (w:World) (w0:(a0=none∧len0=0∧cap0=0∧z0=[])∨∃ x,a0=some x∧len0≤cap0∧cap0≤maxLen∧z0.length=cap0∧(∀ i,i < z0.length→w.cell? (x.add i)=some (.int .u8 (z0.getD i 0)))∧∀ n∈z0,(Lit.int .u8 n).wf=true) (y0:len0 * 1≤140737488351232) (hG:Glob w) :
  Calls Tryd.prog 9 #[.slice a0 len0 cap0] w fun e w'=>e=.returned (.bool true)∧Below w.heap.size w w':=by
 obtain ⟨l0,rfl,hr0,hm0,hw0,hc0⟩:=ReadsInt.ofRowC w0
 obtain ⟨k,h⟩:=P l0 hm0 y0 hw0
 refine (laws_FnKeyIn.calls k _ _ l0 true w (Kd.C_of_reads (d:=(0:Int)) (h1:=fun _=>rfl) hr0) hc0 h hG).mono ?_
 rintro e w' ⟨rfl,hd⟩
 exact ⟨rfl,hd⟩
end Go.Proofs.YtlkheeegkifblaaDoor.P
namespace Go.Proofs.YtlkheeegkifblaaDoor.PL
open Go.RowKit Go.Proofs.YtlkheeegkifblaaDoor.P Go.Proofs.YtlkheeegkifblaaDoorW.PrintWords Go.Proofs.YtlkheeegkifblaaDoorW.PrintLast
theorem of_f (b:List Int) (p:Int) (m:Nat) (l:List ByteArray) (hb:Bytes b) (hp:Rd p (m+1)) (h1:1≤l.length) (h2:l.length≤1000):∃ (s:ByteArray),Ev (fun k=>spec_l6Rd_of.f k b p l) (s,p+1)∧s∈l:=by
 obtain ⟨r,hr,_,h0,hlt,_⟩:=pick_f b p (l.length:Int) m hb hp
 have hlt:=hlt (by omega)
 have hi:r.toNat < l.length:=by omega
 refine ⟨l[r.toNat],?_,List.getElem_mem hi⟩
 unfold spec_l6Rd_of.f
 refine Ev.bind hr ?_
 refine ev_pos h0 (ev_pos hlt ?_)
 have:rdOf ByteArray.empty l r=l[r.toNat]:=by
  unfold rdOf
  rw [List.getD_eq_getElem?_getD,List.getElem?_eq_getElem hi]
  rfl
 rw [this]
 exact evnow _
theorem text_l0_f (b:List Int) (hb:Bytes b):∀ (n:Nat) (s:ByteArray) (p:Int) (m:Nat),s.size+n≤1000→Rd p (m+n+2)→∃ (s':ByteArray) (p':Int),Ev (fun k=>spec_l71Text.l0 k s n b p) (s',p')∧Rd p' m∧s'.size≤1010
 | 0,s,p,m,hs,hp=>by
  obtain ⟨r,hr,hR,_,_,_⟩:=pick_f b p 40 (m+1) hb hp
  by_cases h0:r=0
  ·obtain ⟨u,hu,hm⟩:=of_f b (p+1) m [(⟨#[101]⟩:ByteArray),(⟨#[32]⟩:ByteArray),(⟨#[97,97,97,97]⟩:ByteArray),(⟨#[39]⟩:ByteArray)] hb hR (by simp) (by simp)
   have hz:u.size≤4:=by
    simp only [List.mem_cons,List.not_mem_nil,or_false] at hm
    rcases hm with rfl|rfl|rfl|rfl <;> decide
   refine ⟨s++u,p+1+1,?_,⟨by have:=hR.1;omega,by have:=hR.2;omega⟩,by rw [ByteArray.size_append];omega⟩
   refine Ev.step (fun k=>by simp only [spec_l71Text.l0];rfl) ?_
   refine ev_neg (by omega) (Ev.bind hr (ev_pos h0 (Ev.bind hu (ev_pos (show s.size+u.size≤9223372036854775807 by omega) (evnow _)))))
  ·refine ⟨s,p+1,?_,hR.less (by omega),by omega⟩
   refine Ev.step (fun k=>by simp only [spec_l71Text.l0];rfl) ?_
   exact ev_neg (by omega) (Ev.bind hr (ev_neg h0 (evnow _)))
 | n+1,s,p,m,hs,hp=>by
  obtain ⟨u,hu,hm⟩:=of_f b p (m+n+2) [(⟨#[97]⟩:ByteArray),(⟨#[98]⟩:ByteArray),(⟨#[99]⟩:ByteArray),(⟨#[100]⟩:ByteArray)] hb (hp.less (by omega)) (by simp) (by simp)
  have hz:u.size=1:=by
   simp only [List.mem_cons,List.not_mem_nil,or_false] at hm
   rcases hm with rfl|rfl|rfl|rfl <;> decide
  obtain ⟨s',p',h1,h2,h3⟩:=text_l0_f b hb n (s++u) (p+1) m (by rw [ByteArray.size_append];omega) ⟨by have:=hp.1;omega,by have:=hp.2;omega⟩
  refine ⟨s',p',?_,h2,h3⟩
  refine Ev.step (fun k=>by simp only [spec_l71Text.l0];rfl) ?_
  refine ev_pos (by omega) (Ev.bind hu (ev_pos (show s.size+u.size≤9223372036854775807 by omega) ?_))
  have hw:wrap64 (((n+1:Nat):Int) - 1)=n:=by rw [wrap_id _ (by omega) (by have:=hs;omega)];omega
  rw [hw]
  exact h1
theorem dtext_f (b:List Int) (p:Int) (m:Nat) (hb:Bytes b) (hp:Rd p (m+6)):∃ (s:ByteArray) (p':Int),Ev (fun k=>spec_l71Text.f k b p) (s,p')∧Rd p' m∧s.size≤1010:=by
 obtain ⟨r,hr,hR,h0,hlt,_⟩:=pick_f b p 4 (m+5) hb hp
 have hlt:=hlt (by omega)
 obtain ⟨n,rfl⟩:∃ n:Nat,r=n:=⟨r.toNat,by omega⟩
 obtain ⟨s',p',h1,h2,h3⟩:=text_l0_f b hb n ⟨#[]⟩ (p+1) m (by show 0+n≤1000;omega) (hR.less (by omega))
 refine ⟨s',p',?_,h2,h3⟩
 unfold spec_l71Text.f
 exact Ev.bind hr h1
theorem did_f (b:List Int) (p:Int) (m:Nat) (hb:Bytes b) (hp:Rd p (m+2)):∃ r p':Int,Ev (fun k=>spec_l71Id.f k b p) (r,p')∧Rd p' m∧11≤r∧r≤44:=by
 obtain ⟨x,hx,hR,x0,x1,_⟩:=pick_f b p 3 (m+1) hb hp
 obtain ⟨y,hy,hR2,y0,y1,_⟩:=pick_f b (p+1) 4 m hb hR
 have x1:=x1 (by omega)
 have y1:=y1 (by omega)
 have e:wrap64 (wrap64 (wrap64 (10 * wrap64 (1+x))+1)+y)=10 * (1+x)+1+y:=by
  rw [wrap_id (1+x) (by omega) (by omega),wrap_id (10 * (1+x)) (by omega) (by omega),wrap_id (10 * (1+x)+1) (by omega) (by omega),wrap_id _ (by omega) (by omega)]
 refine ⟨10 * (1+x)+1+y,p+1+1,?_,hR2,by omega,by omega⟩
 unfold spec_l71Id.f
 refine Ev.bind hx (Ev.bind hy ?_)
 rw [e]
 exact evnow _
theorem i64_small {x:Int} (h0:-1000≤x) (h1:x≤1000):I64 x:=⟨by omega,by omega⟩
theorem rd_mem (l:List Int) (r:Int) (h0:0≤r) (h1:r < l.length):rd l r∈l:=by
 have hi:r.toNat < l.length:=by omega
 unfold rd
 rw [List.getD_eq_getElem?_getD,List.getElem?_eq_getElem hi]
 exact List.getElem_mem hi
theorem open_f (code:List Int) (h:∀ x∈code,0≤x∧x≤255):∃ b:List Int,spec_l6Open.f code=some (b,0)∧Bytes b:=by
 unfold spec_l6Open.f
 by_cases hl:(code.length:Int) > 2000
 ·refine ⟨code.take 2000,by rw [if_pos hl,if_pos (by omega)],by rw [List.length_take];omega,fun x hx=>h x (List.mem_of_mem_take hx)⟩
 ·exact ⟨code,by rw [if_neg hl],by omega,h⟩
theorem byte_of {x:Int} (h:(Lit.int .u8 x).wf=true):0≤x∧x≤255:=by
 simp only [Lit.wf,Bool.and_eq_true,decide_eq_true_eq] at h
 exact ⟨h.1,h.2⟩
def wfD (r:S37):Prop:=I64 r.f0∧r.f2.size≤2000
theorem do_wf (t:List S37) (B kd id up at_:Int) (s:ByteArray) (hI:Inv t B) (hB0:0≤B) (hB:B≤1099511627776) (hk:kd=1∨kd=2∨kd=3) (hid:id≠3) (hid64:I64 id) (hl:t.length≤100000) (hs:s.size≤2000) (hw:∀ r∈t,wfD r) :
  ∃ t':List S37,Ev (fun n=>spec_l3Do.f n t kd id up at_ s) t'∧Inv t' (2 * B+1)∧(t'.length≤t.length+1∧t.length≤t'.length)∧∀ r∈t',wfD r:=by
 obtain ⟨t',h1,h2,h3⟩:=do_f t B kd id up at_ s hI hB0 hB hk hid hid64 hl hs
 exact ⟨t',h1,h2,h3,h2.ids⟩
theorem mem_set_wf {t:List S37} (h:∀ r∈t,wfD r) {k:Nat} {v:S37} (hv:wfD v):∀ r∈t.set k v,wfD r:=fun r hr=>by
 rcases List.mem_or_eq_of_mem_set hr with hr|rfl
 ·exact h r hr
 ·exact hv
theorem tree_l1 (b:List Int) (hb:Bytes b):∀ (n:Nat) (t:List S37) (i:Nat) (p:Int) (m:Nat),i+n=t.length→(∀ r∈t,wfD r)→3≤t.length→t.length≤20→Rd p (m+n+3) →
  ∃ (t':List S37) (p':Int),Ev (fun k=>spec_l71Tree.l1 k t i b p) (t',p')∧(∀ r∈t',wfD r)∧2≤t'.length∧t'.length≤21∧Rd p' m
 | 0,t,i,p,m,h,hw,h3,h20,hp=>by
  obtain ⟨r,hr,hR,r0,r1,_⟩:=pick_f b p 24 (m+2) hb hp
  obtain ⟨x,hx,hX,x0,x1,_⟩:=pick_f b (p+1) (t.length:Int) (m+1) hb hR
  obtain ⟨y,hy,hY,y0,y1,_⟩:=pick_f b (p+1+1) 5 m hb hX
  have x1:=x1 (by omega)
  obtain ⟨j,rfl⟩:∃ n:Nat,x=n:=⟨x.toNat,by omega⟩
  have hj:j < t.length:=by omega
  have hwj:=hw _ (List.getElem_mem hj)
  by_cases e0:r=0
  ·refine ⟨t.set j ⟨t[j].f0,y,t[j].f2⟩,p+1+1+1,?_,mem_set_wf hw hwj,by rw [List.length_set];omega,by rw [List.length_set];omega,hY⟩
   refine Ev.step (fun n=>by simp only [spec_l71Tree.l1];rfl) ?_
   refine ev_neg (by omega) (Ev.bind hr (ev_pos e0 (Ev.bind hx (Ev.bind hy (ev_pos x0 (ev_pos x1 ?_))))))
   simp only [rdR_get t j hj,Int.toNat_natCast]
   exact evnow _
  ·by_cases e1:r=1
   ·refine ⟨t++[⟨t[j].f0,t[j].f1,t[j].f2⟩],p+1+1,?_,fun q hq=>?_,by simp;omega,by simp;omega,hX.less (by omega)⟩
    ·refine Ev.step (fun n=>by simp only [spec_l71Tree.l1];rfl) ?_
     refine ev_neg (by omega) (Ev.bind hr (ev_neg e0 (ev_pos e1 (Ev.bind hx (ev_pos x0 (ev_pos x1 (ev_pos (by omega) ?_)))))))
     simp only [rdR_get t j hj]
     exact evnow _
    ·rcases List.mem_append.1 hq with hq|hq
     ·exact hw q hq
     ·rw [List.mem_singleton.1 hq];exact hwj
   ·by_cases e2:r=2
    ·refine ⟨t.drop (1:Int).toNat,p+1,?_,fun q hq=>hw q (List.mem_of_mem_drop hq),by rw [List.length_drop];simp;omega,by rw [List.length_drop];omega,hR.less (by omega)⟩
     refine Ev.step (fun n=>by simp only [spec_l71Tree.l1];rfl) ?_
     exact ev_neg (by omega) (Ev.bind hr (ev_neg e0 (ev_neg e1 (ev_pos e2 (ev_pos (by omega) (evnow _))))))
    ·refine ⟨t,p+1,?_,hw,by omega,by omega,hR.less (by omega)⟩
     refine Ev.step (fun n=>by simp only [spec_l71Tree.l1];rfl) ?_
     exact ev_neg (by omega) (Ev.bind hr (ev_neg e0 (ev_neg e1 (ev_neg e2 (evnow _)))))
 | n+1,t,i,p,m,h,hw,h3,h20,hp=>by
  have hi:i < t.length:=by omega
  have hwi:=hw _ (List.getElem_mem hi)
  have hsz:t[i].f2.size≤2000:=hwi.2
  have ht:=text_f t[i].f2 (by omega)
  have wi:wrap64 ((i:Int)+1)=((i+1:Nat):Int):=by rw [wrap_id _ (by omega) (by omega)];omega
  cases hB:textB t[i].f2 with
  | true =>
   rw [hB] at ht
   obtain ⟨t',p',h1,h2⟩:=tree_l1 b hb n t (i+1) p m (by omega) hw h3 h20 (hp.less (by omega))
   refine ⟨t',p',?_,h2⟩
   refine Ev.step (fun n=>by simp only [spec_l71Tree.l1];rfl) ?_
   refine ev_pos (by omega) (ev_pos (by omega) ?_)
   rw [rdR_get t i hi,wi]
   exact Ev.bind ht (ev_pos rfl h1)
  | false =>
   rw [hB] at ht
   obtain ⟨r,hr,hR,r0,r1,_⟩:=pick_f b p 2 (m+n+3) hb (hp.less (by omega))
   by_cases e0:r=0
   ·obtain ⟨t',p',h1,h2⟩:=tree_l1 b hb n (t.set i ⟨t[i].f0,t[i].f1,⟨#[]⟩⟩) (i+1) (p+1) m (by rw [List.length_set];omega) (mem_set_wf hw ⟨hwi.1,by show (0:Nat)≤2000;omega⟩) (by rw [List.length_set];omega) (by rw [List.length_set];omega) hR
    refine ⟨t',p',?_,h2⟩
    refine Ev.step (fun n=>by simp only [spec_l71Tree.l1];rfl) ?_
    refine ev_pos (by omega) (ev_pos (by omega) ?_)
    rw [rdR_get t i hi,wi,Int.toNat_natCast]
    exact Ev.bind ht (ev_neg (by decide) (Ev.bind hr (ev_pos e0 h1)))
   ·obtain ⟨t',p',h1,h2⟩:=tree_l1 b hb n t (i+1) (p+1) m (by omega) hw h3 h20 hR
    refine ⟨t',p',?_,h2⟩
    refine Ev.step (fun n=>by simp only [spec_l71Tree.l1];rfl) ?_
    refine ev_pos (by omega) (ev_pos (by omega) ?_)
    rw [rdR_get t i hi,wi]
    exact Ev.bind ht (ev_neg (by decide) (Ev.bind hr (ev_neg e0 h1)))
theorem tree_j2 (b:List Int) (hb:Bytes b) (x4:Int) (t:List S37) (B:Nat) (up p:Int) (m:Nat) (hI:Inv t B) (hB:B≤100000) (hw:∀ r∈t,wfD r) (hl:t.length≤1000) (hp:Rd p (m+10)) :
  ∃ (t':List S37) (p':Int),(∀ (r:List S37×Int),Ev (fun k=>spec_l71Tree.l0 k t' (wrap64 (x4 - 1)) b p') r→Ev (fun k=>spec_l71Tree.j2 k t x4 up b p) r)∧Inv t' ((2 * B+1:Nat):Int)∧(t'.length≤t.length+1∧t.length≤t'.length)∧(∀ r∈t',wfD r)∧Rd p' m:=by
 obtain ⟨ks,hks,hkl,hkk⟩:=kids_f t up (by omega)
 have tail:∀ (at_ q:Int),Rd q (m+8)→∃ (t':List S37) (p':Int),(∀ (f:Nat→Option (List S37×Int)) (r:List S37×Int),(∀ n,f n=((spec_l71Id.f n b q).bind fun z=>((spec_l71Text.f n b z.2).bind fun y=>((spec_l3Do.f n t 1 z.1 up at_ y.1).bind fun t'=>(spec_l71Tree.l0 n t' (wrap64 (x4 - 1)) b y.2)))))→Ev (fun k=>spec_l71Tree.l0 k t' (wrap64 (x4 - 1)) b p') r→Ev f r)∧Inv t' ((2 * B+1:Nat):Int)∧(t'.length≤t.length+1∧t.length≤t'.length)∧(∀ r∈t',wfD r)∧Rd p' m:=by
  intro at_ q hq
  obtain ⟨z,p1,hz,hZ,z0,z1⟩:=did_f b q (m+6) hb hq
  obtain ⟨y,p2,hy,hY,y0⟩:=dtext_f b p1 m hb hZ
  obtain ⟨t',ht',hI',hlt,hwt⟩:=do_wf t B 1 z up at_ y hI (by omega) (by omega) (Or.inl rfl) (by omega) (i64_small (by omega) (by omega)) (by omega) (by omega) hw
  exact ⟨t',p2,fun f r hf h=>Ev.congr hf (Ev.bind hz (Ev.bind hy (Ev.bind ht' h))),hI'.more (by omega),hlt,hwt,hY⟩
 by_cases hz:(ks.length:Int) > 0
 ·obtain ⟨x,hx,hX,x0,x1,_⟩:=pick_f b p 2 (m+9) hb hp
  by_cases e0:x=0
  ·obtain ⟨y,hy,hY,y0,y1,_⟩:=pick_f b (p+1) (ks.length:Int) (m+8) hb hX
   have y1:=y1 (by omega)
   obtain ⟨t',p',h1,h2⟩:=tail (rd ks y) (p+1+1) hY
   refine ⟨t',p',fun r hr=>?_,h2⟩
   refine Ev.step (fun n=>by simp only [spec_l71Tree.j2];rfl) ?_
   refine Ev.bind hks (ev_pos hz (Ev.bind hx ?_))
   refine Ev.step (fun n=>by simp only [spec_l71Tree.j3];rfl) ?_
   refine ev_pos (by simp [e0]) (Ev.bind hy (ev_pos y0 (ev_pos y1 ?_)))
   exact h1 _ r (fun n=>rfl) hr
  ·obtain ⟨t',p',h1,h2⟩:=tail 0 (p+1) (hX.less (by omega))
   refine ⟨t',p',fun r hr=>?_,h2⟩
   refine Ev.step (fun n=>by simp only [spec_l71Tree.j2];rfl) ?_
   refine Ev.bind hks (ev_pos hz (Ev.bind hx ?_))
   refine Ev.step (fun n=>by simp only [spec_l71Tree.j3];rfl) ?_
   refine ev_neg (by simp [e0]) ?_
   exact h1 _ r (fun n=>rfl) hr
 ·obtain ⟨t',p',h1,h2⟩:=tail 0 p (hp.less (by omega))
  refine ⟨t',p',fun r hr=>?_,h2⟩
  refine Ev.step (fun n=>by simp only [spec_l71Tree.j2];rfl) ?_
  refine Ev.bind hks (ev_neg hz ?_)
  refine Ev.step (fun n=>by simp only [spec_l71Tree.j3];rfl) ?_
  refine ev_neg (by decide) ?_
  exact h1 _ r (fun n=>rfl) hr
theorem tree_l0 (b:List Int) (hb:Bytes b):∀ (n:Nat) (t:List S37) (B:Nat) (p:Int) (m:Nat),Inv t B→(B+1) * 2 ^ n≤16384→(∀ r∈t,wfD r)→3≤t.length→t.length+n≤20→Rd p (m+12 * n+30) →
  ∃ (t':List S37) (p':Int),Ev (fun k=>spec_l71Tree.l0 k t n b p) (t',p')∧(∀ r∈t',wfD r)∧2≤t'.length∧t'.length≤21∧Rd p' m
 | 0,t,B,p,m,hI,hB,hw,h3,hl,hp=>by
  obtain ⟨t',p',h1,h2⟩:=tree_l1 b hb t.length t 0 p m (by omega) hw h3 (by omega) (hp.less (by omega))
  refine ⟨t',p',?_,h2⟩
  refine Ev.step (fun n=>by simp only [spec_l71Tree.l0];rfl) ?_
  exact ev_neg (by omega) h1
 | n+1,t,B,p,m,hI,hB,hw,h3,hl,hp=>by
  have hB2:B+1≤16384:=Nat.le_trans (Nat.le_mul_of_pos_right _ (Nat.two_pow_pos _)) hB
  have hB3:(2 * B+1+1) * 2 ^ n≤16384:=by
   have e:(2 * B+1+1) * 2 ^ n=(B+1) * 2 ^ (n+1):=by rw [Nat.pow_succ,show 2 * B+1+1=(B+1) * 2 by omega,Nat.mul_assoc,Nat.mul_comm 2]
   rw [e];exact hB
  have wn:wrap64 (((n+1:Nat):Int) - 1)=n:=by rw [wrap_id _ (by omega) (by omega)];omega
  have go:∀ (up q:Int),Rd q (m+12 * n+40)→∃ (t':List S37) (p':Int),Ev (fun k=>spec_l71Tree.j2 k t (n+1:Nat) up b q) (t',p')∧(∀ r∈t',wfD r)∧2≤t'.length∧t'.length≤21∧Rd p' m:=by
   intro up q hq
   obtain ⟨t1,p1,h1,h2,h3',h4,h5⟩:=tree_j2 b hb (n+1:Nat) t B up q (m+12 * n+30) hI (by omega) hw (by omega) hq
   obtain ⟨t',p',g1,g2⟩:=tree_l0 b hb n t1 (2 * B+1) p1 m h2 hB3 h4 (by omega) (by omega) h5
   exact ⟨t',p',h1 _ (by rw [wn];exact g1),g2⟩
  by_cases e3:(t.length:Int) > 3
  ·obtain ⟨x,hx,hX,x0,x1,_⟩:=pick_f b p 3 (m+12 * n+41) hb (hp.less (by omega))
   by_cases e0:x > 0
   ·obtain ⟨y,hy,hY,y0,y1,_⟩:=pick_f b (p+1) (t.length:Int) (m+12 * n+40) hb hX
    have y1:=y1 (by omega)
    obtain ⟨t',p',g1,g2⟩:=go (rd_T37 t y).f0 (p+1+1) hY
    refine ⟨t',p',?_,g2⟩
    refine Ev.step (fun n=>by simp only [spec_l71Tree.l0];rfl) ?_
    refine ev_pos (by omega) (ev_pos e3 (Ev.bind hx ?_))
    refine Ev.step (fun n=>by simp only [spec_l71Tree.j1];rfl) ?_
    exact ev_pos (by simpa using e0) (Ev.bind hy (ev_pos y0 (ev_pos y1 g1)))
   ·obtain ⟨t',p',g1,g2⟩:=go 1 (p+1) (hX.less (by omega))
    refine ⟨t',p',?_,g2⟩
    refine Ev.step (fun n=>by simp only [spec_l71Tree.l0];rfl) ?_
    refine ev_pos (by omega) (ev_pos e3 (Ev.bind hx ?_))
    refine Ev.step (fun n=>by simp only [spec_l71Tree.j1];rfl) ?_
    exact ev_neg (by simpa using e0) g1
  ·obtain ⟨t',p',g1,g2⟩:=go 1 p (hp.less (by omega))
   refine ⟨t',p',?_,g2⟩
   refine Ev.step (fun n=>by simp only [spec_l71Tree.l0];rfl) ?_
   refine ev_pos (by omega) (ev_neg e3 ?_)
   refine Ev.step (fun n=>by simp only [spec_l71Tree.j1];rfl) ?_
   exact ev_neg (by decide) g1
theorem tree71_f (b:List Int) (hb:Bytes b) (p:Int) (m:Nat) (hp:Rd p (m+200)):∃ (t:List S37) (p':Int),Ev (fun k=>spec_l71Tree.f k b p) (t,p')∧(∀ r∈t,wfD r)∧2≤t.length∧t.length≤21∧Rd p' m:=by
 obtain ⟨r,hr,hR,r0,r1,_⟩:=pick_f b p 11 (m+199) hb hp
 have r1:=r1 (by omega)
 obtain ⟨n,rfl⟩:∃ n:Nat,r=n:=⟨r.toNat,by omega⟩
 have hI:Inv ([⟨1,0,⟨#[]⟩⟩,⟨2,0,⟨#[]⟩⟩,⟨3,0,⟨#[]⟩⟩]:List S37) ((0:Nat):Int):=by
  refine ⟨fun x hx=>?_,fun x hx h3=>?_,⟨⟨3,0,⟨#[]⟩⟩,by simp,rfl⟩,fun x hx=>?_⟩
  all_goals simp only [List.mem_cons,List.not_mem_nil,or_false] at hx
  ·rcases hx with rfl|rfl|rfl <;> exact ⟨Int.le_refl _,Int.le_refl _⟩
  ·rcases hx with rfl|rfl|rfl <;> rfl
  ·rcases hx with rfl|rfl|rfl <;> exact ⟨i64_small (by decide) (by decide),by decide⟩
 have hwf:∀ r∈([⟨1,0,⟨#[]⟩⟩,⟨2,0,⟨#[]⟩⟩,⟨3,0,⟨#[]⟩⟩]:List S37),wfD r:=fun x hx=>by
  simp only [List.mem_cons,List.not_mem_nil,or_false] at hx
  rcases hx with rfl|rfl|rfl <;> exact ⟨i64_small (by decide) (by decide),by decide⟩
 have hpow:(0+1) * 2 ^ n≤16384:=by
  have:2 ^ n≤2 ^ 14:=Nat.pow_le_pow_right (by decide) (by omega)
  omega
 obtain ⟨t,p',h1,h2⟩:=tree_l0 b hb n _ 0 (p+1) m hI hpow hwf (by simp) (by simp;omega) (hR.less (by omega))
 refine ⟨t,p',?_,h2⟩
 unfold spec_l71Tree.f spec_TreeNew.f
 simp only [Option.bind_some]
 exact Ev.bind hr h1
theorem row_l0 (b:List Int) (hb:Bytes b):∀ (n:Nat) (t:List S37) (i:Nat) (p:Int) (m:Nat),i+n=6→(∀ r∈t,wfD r)→2≤t.length→t.length≤21→Rd p (m+202 * n+10) →
  ∃ (t':List S37) (id p':Int),Ev (fun k=>spec_l71Row.l0 k t i b p) (t',id,p')∧(∀ r∈t',wfD r)∧2≤t'.length∧t'.length≤21∧I64 id∧Rd p' m:=by
 intro n
 have last:∀ (t:List S37) (i:Nat) (p:Int) (m:Nat),(∀ r∈t,wfD r)→2≤t.length→t.length≤21→Rd p (m+3)→∃ (t':List S37) (id p':Int),Ev (fun k=>spec_l71Row.j1 k t i false b p) (t',id,p')∧(∀ r∈t',wfD r)∧2≤t'.length∧t'.length≤21∧I64 id∧Rd p' m:=by
  intro t i p m hw h2 h21 hp
  obtain ⟨z,p1,hz,hZ,z0,z1⟩:=did_f b p (m+1) hb hp
  obtain ⟨y,hy,hY,y0,y1,_⟩:=pick_f b p1 5 m hb hZ
  have y1:=y1 (by omega)
  refine ⟨t,rd [1,2,3,z,0] y,p1+1,?_,hw,h2,h21,?_,hY⟩
  ·refine Ev.step (fun n=>by simp only [spec_l71Row.j1];rfl) ?_
   refine ev_neg (by decide) (Ev.bind hz ?_)
   simp only [Option.bind_some]
   exact Ev.bind hy (ev_pos y0 (ev_pos (by simpa using y1) (evnow _)))
  ·have:=rd_mem ([1,2,3,z,0]:List Int) y y0 (by simpa using y1)
   simp only [List.mem_cons,List.not_mem_nil,or_false] at this
   exact i64_small (by omega) (by omega)
 induction n with
 | zero =>
  intro t i p m h hw h2 h21 hp
  obtain ⟨t',id,p',g1,g2⟩:=last t i p m hw h2 h21 (hp.less (by omega))
  refine ⟨t',id,p',?_,g2⟩
  refine Ev.step (fun n=>by simp only [spec_l71Row.l0];rfl) ?_
  exact ev_neg (by omega) g1
 | succ n ih =>
  intro t i p m h hw h2 h21 hp
  obtain ⟨x,hx,hX,x0,x1,_⟩:=pick_f b p 12 (m+202 * n+211) hb (hp.less (by omega))
  by_cases e0:x > 0
  ·obtain ⟨y,hy,hY,y0,y1,_⟩:=pick_f b (p+1) (t.length:Int) (m+202 * n+210) hb hX
   have y1:=y1 (by omega)
   obtain ⟨j,rfl⟩:∃ n:Nat,y=n:=⟨y.toNat,by omega⟩
   have hj:j < t.length:=by omega
   have hwj:=hw _ (List.getElem_mem hj)
   have wi:wrap64 ((i:Int)+1)=((i+1:Nat):Int):=by rw [wrap_id _ (by omega) (by omega)];omega
   cases hm:madeB t[j].f0 with
   | true =>
    refine ⟨t,t[j].f0,p+1+1,?_,hw,h2,h21,hwj.1,hY.less (by omega)⟩
    refine Ev.step (fun n=>by simp only [spec_l71Row.l0];rfl) ?_
    refine ev_pos (by omega) (Ev.bind hx ?_)
    refine Ev.step (fun n=>by simp only [spec_l71Row.j1];rfl) ?_
    refine ev_pos (by simpa using e0) (Ev.bind hy (ev_pos y0 (ev_pos y1 ?_)))
    rw [rdR_get t j hj,made_f _ hwj.1,hm]
    simp only [Option.bind_some]
    exact ev_pos (by simp) (evnow _)
   | false =>
    by_cases e3:(i:Int)=3
    ·obtain ⟨t1,p1,g1,g2,g3,g4,g5⟩:=tree71_f b hb (p+1+1) (m+202 * n+10) hY
     obtain ⟨t',id,p',k1,k2⟩:=ih t1 (i+1) p1 m (by omega) g2 g3 g4 g5
     refine ⟨t',id,p',?_,k2⟩
     refine Ev.step (fun n=>by simp only [spec_l71Row.l0];rfl) ?_
     refine ev_pos (by omega) (Ev.bind hx ?_)
     refine Ev.step (fun n=>by simp only [spec_l71Row.j1];rfl) ?_
     refine ev_pos (by simpa using e0) (Ev.bind hy (ev_pos y0 (ev_pos y1 ?_)))
     rw [rdR_get t j hj,made_f _ hwj.1,hm,wi]
     simp only [Option.bind_some]
     exact ev_neg (by decide) (ev_pos e3 (Ev.bind g1 k1))
    ·obtain ⟨t',id,p',k1,k2⟩:=ih t (i+1) (p+1+1) m (by omega) hw h2 h21 (hY.less (by omega))
     refine ⟨t',id,p',?_,k2⟩
     refine Ev.step (fun n=>by simp only [spec_l71Row.l0];rfl) ?_
     refine ev_pos (by omega) (Ev.bind hx ?_)
     refine Ev.step (fun n=>by simp only [spec_l71Row.j1];rfl) ?_
     refine ev_pos (by simpa using e0) (Ev.bind hy (ev_pos y0 (ev_pos y1 ?_)))
     rw [rdR_get t j hj,made_f _ hwj.1,hm,wi]
     simp only [Option.bind_some]
     exact ev_neg (by decide) (ev_neg e3 k1)
  ·obtain ⟨t',id,p',g1,g2⟩:=last t i (p+1) m hw h2 h21 (hX.less (by omega))
   refine ⟨t',id,p',?_,g2⟩
   refine Ev.step (fun n=>by simp only [spec_l71Row.l0];rfl) ?_
   refine ev_pos (by omega) (Ev.bind hx ?_)
   rw [df_ e0]
   exact g1
theorem row71_f (b:List Int) (hb:Bytes b) (p:Int) (m:Nat) (hp:Rd p (m+1500)):∃ (t:List S37) (id p':Int),Ev (fun k=>spec_l71Row.f k b p) (t,id,p')∧(∀ r∈t,wfD r)∧2≤t.length∧t.length≤21∧I64 id∧Rd p' m:=by
 obtain ⟨t,p1,h1,h2,h3,h4,h5⟩:=tree71_f b hb p (m+1300) hp
 obtain ⟨t',id,p',g1,g2⟩:=row_l0 b hb 6 t 0 p1 m (by omega) h2 h3 h4 (h5.less (by omega))
 exact ⟨t',id,p',Ev.bind h1 g1,g2⟩
end Go.Proofs.YtlkheeegkifblaaDoor.PL
namespace Go.Proofs.YtlkheeegkifblaaDoor.PL
open Go.RowKit Go.Proofs.YtlkheeegkifblaaDoor.P Go.Proofs.YtlkheeegkifblaaDoorW.PrintWords Go.Proofs.YtlkheeegkifblaaDoorW.PrintLast Go.Proofs.YtlkheeegkifblaaDoor.FP
theorem doF_len {G:Fo} (g:Good G) (kd:Int) (i:Nat) (hit:i∉G.tops) (up at_:Int) (s:ByteArray):(doF G kd (i:Int) up at_ s).ids.length≤2000:=by
 have hg:=g.len
 unfold doF
 rcases fndF_cases g i with ⟨hi,hf⟩|⟨hi,hf⟩
 ·have hi0:=g.ne0 i hi
  rw [hf,if_neg hi0,if_neg hi0,if_neg hi0]
  split
  ·rw [setF_ids];omega
  ·split
   ·omega
   ·split
    ·omega
    ·rename_i hu
     obtain ⟨h,hr⟩:=reptop_ex G g.nd g.ne0
     have hp:=near_del hr g.nd g.three hi hit (id:=(i:Int)) (up:=up) (at_:=at_) rfl hu
     have hperm:=ids_del i G g.nd hi
     obtain ⟨n1,n2⟩:=List.nodup_cons.1 (hperm.nodup_iff.1 g.nd)
     obtain ⟨n3,n4,n5⟩:=List.nodup_append.1 n2
     have e1:=(putF_ids (p:=nearF G (i:Int) up at_) (i:=i) (t:=txtF i G) (s:=sub i G) n4 hp.1 (hp.2.imp id And.left)).length_eq
     have e2:=hperm.length_eq
     simp only [List.length_cons,List.length_append] at e1 e2
     omega
 ·rw [hf,if_pos rfl,if_pos rfl,if_pos rfl]
  have hp:=near_ok (G:=G) (tops_ids g.three) (i:Int) up at_
  have e1:=(putF_ids (p:=nearF G (i:Int) up at_) (i:=(i:Int).toNat) (t:=s) (s:=.nil) g.nd hp.up (hp.at_.imp id And.left)).length_eq
  simp only [List.length_cons,List.length_append,Fo.ids,List.length_nil] at e1
  split
  ·omega
  ·split <;> omega
theorem opDoR_len (l:List S37) (k i u a:Int) (s:ByteArray):(opDoR l k i u a s).length≤2000:=by
 unfold opDoR
 split
 ·rename_i ho
  split
  ·rename_i ht
   obtain ⟨m,rfl,h4,h37⟩:=made_num (opB_made k i u a s ho)
   have g:=good_of ht
   rw [fl_len]
   exact doF_len g k m (by rw [g.tops];simp;omega) u a s
  ·simp
 ·simp
end Go.Proofs.YtlkheeegkifblaaDoor.PL
namespace Go.Proofs.YtlkheeegkifblaaDoor.P
open Go.RowKit Go.Proofs.YtlkheeegkifblaaDoorW.PrintWords Go.Proofs.YtlkheeegkifblaaDoorW.PrintLast
attribute [local go_sem high] eqA37
end Go.Proofs.YtlkheeegkifblaaDoor.P
namespace Go.Proofs.YtlkheeegkifblaaDoor.PL
open Go.RowKit Go.Proofs.YtlkheeegkifblaaDoor.P Go.Proofs.YtlkheeegkifblaaDoorW.PrintWords Go.Proofs.YtlkheeegkifblaaDoorW.PrintLast Go.Proofs.YtlkheeegkifblaaDoor.FP
theorem le40 (l:List S37) (k i u a:Int) (s:ByteArray):(opDoR l k i u a s).length≤1099511627776:=by have:=opDoR_len l k i u a s;omega
theorem pure_of {f:Nat→Option Bool} (h:Ev f true):∃ k,f k=some true:=by
 obtain ⟨K,hK⟩:=h
 exact ⟨K,hK K (Nat.le_refl K)⟩
theorem wrapM (i:Int) (h0:0≤i) (h:i≤4611686018427387904):wrap64 (i - 1)=i - 1:=by unfold wrap64;omega
theorem take_rev (t:List S37) (i:Nat) (hi:i < t.length):(t.take (i+1)).reverse=t[i]::(t.take i).reverse:=by
 rw [List.take_succ_eq_append_getElem hi,List.reverse_append];rfl
theorem ahead_l0 (t:List S37) (a:Nat) (ha:a < t.length) (hl:t.length≤2000000):∀ i,i≤t.length→Ev (fun k=>spec_l2Ahead.l0 k t a ((i:Int) - 1)) ((aheadO t[a].f1 (t.take i).reverse).getD 0)
 | 0,_=>by
  refine Ev.step (f:=fun k=>spec_l2Ahead.j1 k t a (((0:Nat):Int) - 1) false) (fun k=>?_) ?_
  ·simp only [spec_l2Ahead.l0];rw [if_neg (by omega)]
  ·refine Ev.step (f:=fun _=>some 0) (fun k=>?_) (evnow _)
   simp only [spec_l2Ahead.j1];rfl
 | i+1,h=>by
  have hi:i < t.length:=by omega
  rw [take_rev t i hi]
  unfold aheadO
  rw [show ((i+1:Nat):Int) - 1=i by omega]
  refine Ev.step (f:=fun k=>spec_l2Ahead.j1 k t a i (decide (t[i].f1≥t[a].f1))) (fun k=>?_) ?_
  ·simp only [spec_l2Ahead.l0]
   rw [if_pos (by omega),if_pos (by omega),if_pos (by omega),if_pos (by omega),if_pos (by omega),rdR_get t i hi,rdR_get t a ha]
  ·by_cases hq:t[i].f1 < t[a].f1
   ·rw [if_pos hq,df_ (by omega)]
    refine Ev.step (f:=fun _=>some 0) (fun k=>?_) (evnow _)
    simp only [spec_l2Ahead.j1];rfl
   ·rw [if_neg hq,dt_ (by omega)]
    by_cases he:t[i].f1=t[a].f1
    ·rw [if_pos he]
     refine Ev.step (f:=fun _=>some t[i].f0) (fun k=>?_) (evnow _)
     simp only [spec_l2Ahead.j1]
     rw [if_pos True.intro,if_pos (by omega),if_pos (by omega),if_pos (by omega),if_pos (by omega),rdR_get t i hi,rdR_get t a ha,if_pos he]
    ·rw [if_neg he]
     refine Ev.step (fun k=>?_) (ahead_l0 t a ha hl i (by omega))
     simp only [spec_l2Ahead.j1]
     rw [if_pos True.intro,if_pos (by omega),if_pos (by omega),if_pos (by omega),if_pos (by omega),rdR_get t i hi,rdR_get t a ha,if_neg he,wrapM i (by omega) (by omega)]
theorem spot_take {x d:Nat} {G:Fo} {pre post:List S37} (s:Spot x d G pre post):(G.fl d).take pre.length=pre:=by rw [s.all];exact List.take_left
theorem ahead_x {G:Fo} (g:Good G) {x:Nat} (hx:x∈G.ids) (ht:x∉G.tops) {pre post:List S37} (s:Spot x 0 G pre post):Ev (fun k=>spec_l2Ahead.f k (G.fl 0) (pre.length:Int)) (sibT x G:Int):=by
 have hl:=spot_len s
 have ha:pre.length < (G.fl 0).length:=by omega
 have hn:(G.fl 0).length≤1000:=by rw [fl_len];exact g.len
 have:=ahead_l0 (G.fl 0) pre.length ha (by omega) pre.length (by omega)
 rw [spot_get s ha,spot_take s] at this
 have hp:=spot_pre g.nd hx s
 have hu:=ahead_top (g.ne0 x hx) G 0 g.nd hx ht
 rw [←hp] at hu
 simp only at this
 rw [hu] at this
 unfold spec_l2Ahead.f
 rw [wrapM _ (by omega) (by omega)]
 exact this
theorem found {l:List S37} (ht:treeB l=true) {id:Int} (h:fndF (toFo l) id≠0):∃ m:Nat,id=(m:Int)∧fndF (toFo l) id=m∧m∈(toFo l).ids∧∃ pre post,Spot m 0 (toFo l) pre post∧atI l id=(pre.length:Int):=by
 obtain ⟨h1,h2⟩:=fndF_mem h
 obtain ⟨pre,post,s⟩:=spot (fndF (toFo l) id) (toFo l) 0 (val_of ht).nd h1
 refine ⟨fndF (toFo l) id,h2.symm,rfl,h1,pre,post,s,?_⟩
 have:=spot_at s
 rw [toFo_fl ht,h2] at this
 exact this
theorem lost {l:List S37} (ht:treeB l=true) {id:Int} (h:fndF (toFo l) id=0):atI l id=-1:=by
 have:=at_fnd0 h (val_of ht).ne0
 rwa [toFo_fl ht] at this
theorem par_made {l:List S37} (ht:treeB l=true) {m:Nat} (hm:m∈(toFo l).ids):(rootB (m:Int)=true∧m∈(toFo l).tops∧par m 0 (toFo l)=0)∨(rootB (m:Int)=false∧madeB (m:Int)=true∧m∉(toFo l).tops∧par m 0 (toFo l)≠0∧par m 0 (toFo l)∈(toFo l).ids):=by
 have v:=val_of ht
 by_cases h4:4≤m
 ·right
  have hmd:=(made_of_ok (v.ok m hm) h4).1
  have htop:=v.top hmd
  have hp:=(back_top (v.ne0 m hm) (toFo l) v.nd v.ne0 hm htop).up
  exact ⟨made_not_root hmd,hmd,htop,v.ne0 _ hp,hp⟩
 ·left
  have h0:=v.ne0 m hm
  have hc:m=1∨m=2∨m=3:=by omega
  have htop:m∈(toFo l).tops:=by rw [v.tops];simp;omega
  refine ⟨?_,htop,par_top0 (G:=toFo l) v.nd htop⟩
  rcases hc with rfl|rfl|rfl <;> decide
theorem stahead_f (l:List S37) (id:Int) (hl:l.length≤2000000) (hw:∀ r∈l,wfR r):Ev (fun k=>spec_TreeAhead.f k l id) (aheadR l id):=by
 unfold spec_TreeAhead.f aheadR
 refine Ev.bind (at_f l id (by omega)) (Ev.bind (stree_f l (by omega) hw) ?_)
 cases ht:treeB l with
 | false=>rw [if_neg (by decide)];exact ev_neg (by decide) (evnow _)
 | true =>
  rw [if_pos rfl]
  refine ev_pos rfl ?_
  by_cases h0:fndF (toFo l) id=0
  ·rw [if_pos h0,lost ht h0];exact ev_pos (by omega) (evnow _)
  ·rw [if_neg h0]
   obtain ⟨m,rfl,e,hm,pre,post,s,ha⟩:=found ht h0
   rw [ha,e]
   refine ev_neg (by omega) ?_
   rw [root_f]
   simp only [Option.bind_some]
   rcases par_made ht hm with ⟨h1,h2,h3⟩|⟨h1,h2,h3,h4,_⟩
   ·rw [h1,if_pos h3];exact ev_pos rfl (evnow _)
   ·rw [h1,if_neg h4]
    have:=ahead_x (val_of ht).good hm h3 s
    rw [toFo_fl ht] at this
    exact ev_neg (by decide) (Ev.bind this (evnow _))
theorem rd_last (l:List Nat) (h:l≠[]):rd (l.map Int.ofNat) (((l.map Int.ofNat).length:Int) - 1)=(lastN 0 l:Int):=by
 rcases lastN_cases l with ⟨e,_⟩|⟨l',e⟩
 ·exact absurd e h
 ·generalize lastN 0 l=z at e
  subst e
  rw [List.map_append,List.map_cons,List.map_nil,List.length_append,List.length_cons,List.length_nil]
  unfold rd
  rw [show (((l'.map Int.ofNat).length+(0+1):Nat):Int) - 1=((l'.map Int.ofNat).length:Int) by omega]
  simp
theorem skeyIn_f (l:List S37) (id:Int) (hl:l.length≤2000000) (hw:∀ r∈l,wfR r):Ev (fun k=>spec_KeyIn.f k l id) (keyR keyInF l id):=by
 have no:∀ (a:Int),Ev (fun k=>spec_KeyIn.j0 k l id a true) kNo:=fun a=>by
  refine Ev.step (f:=fun _=>some kNo) (fun k=>?_) (evnow _)
  simp only [spec_KeyIn.j0];rfl
 unfold spec_KeyIn.f
 refine Ev.bind (stahead_f l id hl hw) ?_
 unfold aheadR keyR
 cases ht:treeB l with
 | false=>rw [if_neg (by decide),if_neg (by decide)];exact ev_neg (by decide) (no _)
 | true =>
  rw [if_pos rfl,if_pos rfl]
  by_cases h0:fndF (toFo l) id=0
  ·rw [if_pos h0,if_pos h0,ite_self];exact ev_neg (by decide) (no _)
  ·rw [if_neg h0,if_neg h0]
   obtain ⟨m,rfl,e,hm,pre,post,s,ha⟩:=found ht h0
   rw [e]
   rcases par_made ht hm with ⟨h1,h2,h3⟩|⟨h1,h2,h3,h4,_⟩
   ·rw [if_pos h3,if_neg (fun g=>by rw [made_not_root g] at h1;cases h1)]
    exact ev_neg (by decide) (no _)
   ·rw [if_neg h4,if_pos h2]
    refine ev_pos rfl ?_
    unfold keyInF
    by_cases hs:sibT m (toFo l)=0
    ·rw [if_pos hs,hs]
     exact no _
    ·rw [if_neg hs,beq_eq_false_iff_ne.2 (show ((sibT m (toFo l):Nat):Int)≠0 by omega)]
     have v:=val_of ht
     have hsm:=(sibT_mem m (toFo l)).resolve_left hs
     have hk:=kids_x v.good hsm
     rw [toFo_fl ht] at hk
     refine Ev.step (fun k=>by simp only [spec_KeyIn.j0];rfl) ?_
     refine ev_neg (by decide) (Ev.bind hk ?_)
     unfold lastK kMv
     have hlen:(sub (sibT m (toFo l)) (toFo l)).tops.length≤1000:=by
      have h5:=tops_few (sub (sibT m (toFo l)) (toFo l))
      have h6:=(ids_del (sibT m (toFo l)) (toFo l) v.nd hsm).length_eq
      have h7:=v.len
      simp only [List.length_cons,List.length_append] at h6
      omega
     generalize hT:(sub (sibT m (toFo l)) (toFo l)).tops=T at hlen ⊢
     by_cases hn:T=[]
     ·subst hn
      refine ev_pos (by simp) ?_
      exact evnow _
     ·have hp:0 < T.length:=List.length_pos_iff.2 hn
      refine ev_neg (by rw [List.length_map];omega) ?_
      have hlm:((T.map Int.ofNat).length:Int)=T.length:=by rw [List.length_map]
      rw [wrapM _ (by omega) (by omega)]
      refine ev_pos (by omega) (ev_pos (by omega) ?_)
      rw [rd_last T hn]
      exact evnow _
end Go.Proofs.YtlkheeegkifblaaDoor.PL
namespace Go.Proofs.YtlkheeegkifblaaDoor.PL
open Go.Proofs.YtlkheeegkifblaaDoor.P
structure Line (r:S37):Prop where
 id0:0≤r.f0
 id1:r.f0 < 100
 deep:0≤r.f1
 txt:∀ x∈r.f2.data.toList,97≤x.toNat∧x.toNat≤100
end Go.Proofs.YtlkheeegkifblaaDoor.PL
namespace Go.Proofs.YtlkheeegkifblaaDoor.P
open Go.RowKit Go.Shelf Go.Proofs.YtlkheeegkifblaaDoorW.PrintWords Go.Proofs.YtlkheeegkifblaaDoorW.PrintLast Go.Proofs.YtlkheeegkifblaaDoorW.PrintMore Go.Proofs.YtlkheeegkifblaaDoor.PL Go.Proofs.YtlkheeegkifblaaDoor.FP
attribute [local go_sem] Oper.semAt_some

open Go.Maps (Keyed)
attribute [local go_sem] Oper.semAt_some

attribute [local go_sem] Oper.semAt_some

theorem At.mem {w:World} {n0 F:Nat} {A:Nat→Option Nat} {h:Nat→Nd} {G:Fo} (t:At w n0 F A h G) {i b:Nat} (hi:A i=some b):i∈G.ids:=(t.dom i).1 (by rw [hi];simp)
attribute [local go_sem] Oper.semAt_some

attribute [local go_sem] Oper.semAt_some

attribute [local go_sem] Oper.semAt_some

end Go.Proofs.YtlkheeegkifblaaDoor.P
namespace Go.Proofs.YtlkheeegkifblaaDoor.PL
open Go.RowKit Go.Proofs.YtlkheeegkifblaaDoor.P Go.Proofs.YtlkheeegkifblaaDoorW.PrintWords Go.Proofs.YtlkheeegkifblaaDoorW.PrintLast Go.Proofs.YtlkheeegkifblaaDoor.FP
theorem textFrom_all (s:ByteArray):∀ (n i:Nat),textFrom s i n=true→∀ j,i≤j→j < i+n→97≤bt s j∧bt s j≤100
 | 0,i,_,j,h1,h2=>absurd h2 (by omega)
 | n+1,i,h,j,h1,h2=>by
  simp only [textFrom,Bool.and_eq_true,decide_eq_true_eq] at h
  by_cases e:j=i
  ·subst e;exact h.1
  ·exact textFrom_all s n (i+1) h.2 j (by omega) (by omega)
theorem textB_bytes {s:ByteArray} (h:textB s=true):s.size≤4∧∀ x∈s.data.toList,97≤x.toNat∧x.toNat≤100:=by
 unfold textB at h
 rw [Bool.and_eq_true,decide_eq_true_eq] at h
 refine ⟨h.2,fun x hx=>?_⟩
 obtain ⟨j,hj,e⟩:=List.mem_iff_getElem.1 hx
 have hj2:j < s.size:=by show j < s.data.size;simpa using hj
 have:=textFrom_all s s.size 0 h.1 j (by omega) (by omega)
 unfold bt at this
 rw [Int.toNat_natCast,dif_pos hj2] at this
 have e2:s[j]'hj2=x:=by rw [←e];simp;rfl
 rw [e2] at this
 omega
theorem line_of {r:S37} (h:rowB r=true):Line r∧r.f1≤100∧r.f2.size≤100:=by
 unfold rowB at h
 split at h
 ·rename_i hr
  rw [Bool.and_eq_true,decide_eq_true_eq] at h
  unfold rootB at hr
  rw [Bool.and_eq_true,decide_eq_true_eq,decide_eq_true_eq] at hr
  have e:r.f2.toList=[]:=by simpa using h.2
  have e2:r.f2.data.toList=[]:=by rw [←Go.ByteArray.toList_eq];exact e
  have e3:r.f2.size=0:=by show r.f2.data.size=0;rw [←Array.length_toList,e2];rfl
  exact ⟨⟨by omega,by omega,by omega,fun x hx=>by rw [e2] at hx;cases hx⟩,by omega,by omega⟩
 ·simp only [Bool.and_eq_true,decide_eq_true_eq] at h
  obtain ⟨h1,h2,h3,h4⟩:=h
  obtain ⟨h5,h6⟩:=made_small _ h1
  obtain ⟨h7,h8⟩:=textB_bytes h4
  exact ⟨⟨h5,by omega,by omega,h8⟩,by omega,by omega⟩
structure Dk (t:List S37) (id:Int):Prop where
 wf:∀ r∈t,wfD r
 few:t.length≤21
 id64:I64 id
theorem Dk.wfR {t:List S37} {id:Int} (d:Dk t id):∀ r∈t,wfR r:=fun r hr=>⟨(d.wf r hr).1,by have:=(d.wf r hr).2;omega⟩
theorem Dk.tree {t:List S37} {id:Int} (d:Dk t id):Ev (fun n=>spec_TreeOk.f n t) (treeB t):=stree_f t (by have:=d.few;omega) d.wfR
theorem row_dk (b:List Int) (hb:Bytes b) (p:Int) (m:Nat) (hp:Rd p (m+1500)):∃ (t:List S37) (id p':Int),Ev (fun k=>spec_l71Row.f k b p) (t,id,p')∧Dk t id∧Rd p' m:=by
 obtain ⟨t,id,p',h1,h2,_,h3,h4,h5⟩:=row71_f b hb p m hp
 exact ⟨t,id,p',h1,⟨h2,h3,h4⟩,h5⟩
theorem drawAhead_l0 (b:List Int) (hb:Bytes b):∀ (n i:Nat) (t:List S37) (id p:Int),i+n=5→Dk t id→Rd p (1501 * n+1) →
  ∃ (t':List S37) (id':Int),Ev (fun m=>spec_DrawTreeAhead.l0 m t id i b p) (t',id')∧Dk t' id'
 | 0,i,t,id,p,h,d,hp=>by
  refine ⟨t,id,?_,d⟩
  refine Ev.step (f:=fun m=>spec_DrawTreeAhead.j1 m t id i false b p) (fun m=>?_) ?_
  ·simp only [spec_DrawTreeAhead.l0];rw [if_neg (by omega)]
  ·refine Ev.step (f:=fun _=>some (t,id)) (fun m=>?_) (evnow _)
   simp only [spec_DrawTreeAhead.j1];rfl
 | n+1,i,t,id,p,h,d,hp=>by
  obtain ⟨x,hx,hX,x0,x1,_⟩:=pick_f b p 6 (1501 * n+1501) hb (hp.less (by omega))
  have stop:Ev (fun m=>spec_DrawTreeAhead.j1 m t id i false b (p+1)) (t,id):=by
   refine Ev.step (f:=fun _=>some (t,id)) (fun m=>?_) (evnow _)
   simp only [spec_DrawTreeAhead.j1];rfl
  by_cases e0:x > 0
  ·by_cases e1:(aheadR t id).1 > 0
   ·refine ⟨t,id,?_,d⟩
    refine Ev.step (fun m=>by simp only [spec_DrawTreeAhead.l0];rfl) ?_
    refine ev_pos (by omega) (Ev.bind hx ?_)
    rw [dt_ e0]
    refine Ev.step (fun m=>by simp only [spec_DrawTreeAhead.j1];rfl) ?_
    exact ev_pos (by simp) (Ev.bind (stahead_f t id (by have:=d.few;omega) d.wfR) (ev_pos e1 (evnow _)))
   ·obtain ⟨t1,id1,p1,h1,d1,r1⟩:=row_dk b hb (p+1) (1501 * n+1) (hX.less (by omega))
    obtain ⟨t',id',h2,d2⟩:=drawAhead_l0 b hb n (i+1) t1 id1 p1 (by omega) d1 r1
    refine ⟨t',id',?_,d2⟩
    refine Ev.step (fun m=>by simp only [spec_DrawTreeAhead.l0];rfl) ?_
    refine ev_pos (by omega) (Ev.bind hx ?_)
    rw [dt_ e0]
    refine Ev.step (fun m=>by simp only [spec_DrawTreeAhead.j1];rfl) ?_
    refine ev_pos (by simp) (Ev.bind (stahead_f t id (by have:=d.few;omega) d.wfR) (ev_neg e1 (Ev.bind h1 ?_)))
    rw [wrapS i (by omega) (by omega)]
    exact h2
  ·refine ⟨t,id,?_,d⟩
   refine Ev.step (fun m=>by simp only [spec_DrawTreeAhead.l0];rfl) ?_
   refine ev_pos (by omega) (Ev.bind hx ?_)
   rw [df_ e0]
   exact stop
theorem drawIn_f (code:List Int) (h:∀ x∈code,(Lit.int .u8 x).wf=true):∃ (t:List S37) (id:Int),Ev (fun n=>spec_DrawKeyIn.f n code) (t,id)∧Dk t id:=by
 obtain ⟨b,hb,hB⟩:=open_f code (fun x hx=>byte_of (h x hx))
 obtain ⟨t,id,p,h1,d1,r1⟩:=row_dk b hB 0 7600 ⟨by omega,by omega⟩
 obtain ⟨t',id',h2,d2⟩:=drawAhead_l0 b hB 5 0 t id p (by omega) d1 (r1.less (by omega))
 refine ⟨t',id',?_,d2⟩
 unfold spec_DrawKeyIn.f spec_DrawTreeAhead.f
 rw [hb]
 simp only [Option.bind_some]
 exact Ev.bind (Ev.bind h1 h2) (evnow _)
end Go.Proofs.YtlkheeegkifblaaDoor.PL
namespace Go.Proofs.YtlkheeegkifblaaDoor.P
open Go.RowKit Go.Shelf Go.Proofs.YtlkheeegkifblaaDoorW.PrintWords Go.Proofs.YtlkheeegkifblaaDoorW.PrintLast Go.Proofs.YtlkheeegkifblaaDoorW.PrintMore Go.Proofs.YtlkheeegkifblaaDoor.PL Go.Proofs.YtlkheeegkifblaaDoor.FP
attribute [local go_sem] Oper.semAt_some

attribute [local go_sem] Oper.semAt_some

end Go.Proofs.YtlkheeegkifblaaDoor.P
namespace Go.Proofs.YtlkheeegkifblaaDoor.PL
open Go.RowKit Go.Proofs.YtlkheeegkifblaaDoor.P Go.Proofs.YtlkheeegkifblaaDoorW.PrintWords Go.Proofs.YtlkheeegkifblaaDoorW.PrintLast Go.Proofs.YtlkheeegkifblaaDoor.FP
structure Mk (l:List S37) (m:Nat):Prop where
 tree:treeB l=true
 made:madeB (m:Int)=true
 mem:m∈(toFo l).ids
theorem Mk.v {l:List S37} {m:Nat} (k:Mk l m):Val (toFo l):=val_of k.tree
theorem Mk.top {l:List S37} {m:Nat} (k:Mk l m):m∉(toFo l).tops:=k.v.top k.made
theorem Mk.ne {l:List S37} {m:Nat} (k:Mk l m):m≠0:=k.v.ne0 m k.mem
theorem Mk.par {l:List S37} {m:Nat} (k:Mk l m):FP.par m 0 (toFo l)∈(toFo l).ids:=(back_top k.ne (toFo l) k.v.nd k.v.ne0 k.mem k.top).up
theorem Mk.fnd {l:List S37} {m:Nat} (k:Mk l m):fndF (toFo l) (m:Int)=m:=fnd_nat k.mem
theorem Mk.key {l:List S37} {m:Nat} (k:Mk l m) (K:Fo→Nat→Int×Int×Int×Int×ByteArray×Bool):keyR K l m=K (toFo l) m:=by
 unfold keyR;rw [k.tree,k.made,if_pos rfl,if_pos rfl,k.fnd,if_neg k.ne]
theorem key_yes {K:Fo→Nat→Int×Int×Int×Int×ByteArray×Bool} {l:List S37} {id:Int} (h:(keyR K l id).2.2.2.2.2=true):∃ m:Nat,id=(m:Int)∧Mk l m∧(K (toFo l) m).2.2.2.2.2=true∧keyR K l id=K (toFo l) m:=by
 unfold keyR at h ⊢
 cases ht:treeB l with
 | false=>rw [ht,if_neg (by decide)] at h;cases h
 | true =>
  rw [ht,if_pos rfl] at h
  cases hm:madeB id with
  | false=>rw [hm,if_neg (by decide)] at h;cases h
  | true =>
   rw [hm,if_pos rfl] at h
   by_cases h0:fndF (toFo l) id=0
   ·rw [if_pos h0] at h;cases h
   ·rw [if_neg h0] at h
    obtain ⟨h1,h2⟩:=fndF_mem h0
    refine ⟨fndF (toFo l) id,h2.symm,⟨ht,by rw [h2];exact hm,h1⟩,h,?_⟩
    rw [if_pos rfl,if_pos rfl,if_neg h0]
theorem keyIn_yes {G:Fo} {m:Nat} (h:(keyInF G m).2.2.2.2.2=true):sibT m G≠0∧keyInF G m=kMv m (sibT m G:Nat) (lastK (sibT m G) G:Nat):=by
 unfold keyInF at h ⊢
 by_cases h0:sibT m G=0
 ·rw [if_pos h0] at h;cases h
 ·rw [if_neg h0];exact ⟨h0,rfl⟩
theorem id_of {G:Fo} (v:Val G) {x:Nat} (hx:x∈G.ids):idB (x:Int)=true:=by
 unfold idB
 by_cases h4:4≤x
 ·rw [(made_of_ok (v.ok x hx) h4).1,Bool.or_true]
 ·have:=v.ne0 x hx
  have hc:x=1∨x=2∨x=3:=by omega
  rcases hc with rfl|rfl|rfl <;> decide
theorem made_of_top {G:Fo} (v:Val G) {x:Nat} (hx:x∈G.ids) (ht:x∉G.tops):madeB (x:Int)=true:=by
 have h4:4≤x:=by
  rw [v.tops] at ht
  simp only [List.mem_cons,List.not_mem_nil,or_false,not_or] at ht
  have:=v.ne0 x hx
  omega
 exact (made_of_ok (v.ok x hx) h4).1
theorem opB_mv {G:Fo} (v:Val G) {m u a:Nat} (hm:madeB (m:Int)=true) (hu:u∈G.ids) (ha:a=0∨(a∈G.ids∧a∉G.tops)):opB 3 (m:Int) (u:Int) (a:Int) ⟨#[]⟩=true:=by
 have he:(⟨#[]⟩:ByteArray).toList.isEmpty=true:=by rw [Go.ByteArray.toList_eq];rfl
 unfold opB placeB
 rw [hm,id_of v hu,he]
 rcases ha with rfl|⟨h1,h2⟩
 ·simp
 ·rw [made_of_top v h1 h2];simp
theorem mv_do {l:List S37} {m u a:Nat} (k:Mk l m) (hu:u∈(toFo l).ids) (ha:a=0∨(a∈(toFo l).ids∧a∉(toFo l).tops)) (hw:¬ under m u (toFo l)) (hn:nearF (toFo l) (m:Int) (u:Int) (a:Int)=(u,a)) :
  opB 3 (m:Int) (u:Int) (a:Int) ⟨#[]⟩=true∧opDoR l 3 m u a ⟨#[]⟩=(mvF (toFo l) (u,a) m).fl 0∧treeB (opDoR l 3 m u a ⟨#[]⟩)=true∧toFo (opDoR l 3 m u a ⟨#[]⟩)=mvF (toFo l) (u,a) m∧Val (mvF (toFo l) (u,a) m):=by
 have ho:=opB_mv k.v k.made hu ha
 obtain ⟨e,h2,h3,v'⟩:=opDo_val ho k.tree
 have e2:FP.doF (toFo l) 3 (m:Int) (u:Int) (a:Int) ⟨#[]⟩=mvF (toFo l) (u,a) m:=by
  rw [doF_move k.mem k.ne _ _ _ (by rw [fnd_nat hu];exact hw),hn]
 rw [e2] at e h3 v'
 exact ⟨ho,e,h2,h3,v'⟩
theorem Mk.moved {l:List S37} {m:Nat} (k:Mk l m) {x:List S37} {q:Nat×Nat} (o:MvOk (toFo l) m q) (ht:treeB x=true) (e:toFo x=mvF (toFo l) q m):Mk x m:=⟨ht,k.made,by rw [e,o.ids];exact k.mem⟩
theorem empty_size:(⟨#[]⟩:ByteArray).size≤9223372036854775807:=by show 0≤_;omega
end Go.Proofs.YtlkheeegkifblaaDoor.PL
namespace Go.Proofs.YtlkheeegkifblaaDoor.P
open Go.RowKit Go.Proofs.YtlkheeegkifblaaDoorW.PrintWords Go.Proofs.YtlkheeegkifblaaDoorW.PrintLast
attribute [local go_sem high] eqA27
end Go.Proofs.YtlkheeegkifblaaDoor.P
namespace Go.Proofs.YtlkheeegkifblaaDoor.PL
open Go.RowKit Go.Proofs.YtlkheeegkifblaaDoor.P Go.Proofs.YtlkheeegkifblaaDoorW.PrintWords Go.Proofs.YtlkheeegkifblaaDoorW.PrintLast Go.Proofs.YtlkheeegkifblaaDoor.FP
structure In (t:List S37) (m a b:Nat):Prop where
 k:Mk t m
 key:keyR keyInF t m=kMv m a b
 ea:sibT m (toFo t)=a
 eb:lastK a (toFo t)=b
 ok:InOk (toFo t) m a b
 op:opB 3 (m:Int) (a:Int) (b:Int) ⟨#[]⟩=true
 all:opDoR t 3 m a b ⟨#[]⟩=(mvF (toFo t) (a,b) m).fl 0
 tree:treeB (opDoR t 3 m a b ⟨#[]⟩)=true
 fo:toFo (opDoR t 3 m a b ⟨#[]⟩)=mvF (toFo t) (a,b) m
 val:Val (mvF (toFo t) (a,b) m)
theorem in_yes {t:List S37} {id:Int} (h:(keyR keyInF t id).2.2.2.2.2=true):∃ (m a b:Nat),id=(m:Int)∧In t m a b:=by
 obtain ⟨m,rfl,k,h1,h2⟩:=key_yes h
 obtain ⟨h3,h4⟩:=keyIn_yes h1
 have io:=in_ok k.v.nd k.v.ne0 k.v.three k.mem k.top h3
 have so:=io.sib
 have hlast:lastK (sibT m (toFo t)) (toFo t)=0∨(lastK (sibT m (toFo t)) (toFo t)∈(toFo t).ids∧lastK (sibT m (toFo t)) (toFo t)∉(toFo t).tops):=by
  rcases lastK_par k.v.nd k.v.ne0 so.mem with ⟨e,_⟩|⟨e1,e2,_⟩
  ·exact Or.inl e
  ·exact Or.inr ⟨e1,fun g=>by rw [par_top0 (G:=toFo t) k.v.nd g] at e2;exact k.v.ne0 _ so.mem e2.symm⟩
 obtain ⟨o1,o2,o3,o4,o5⟩:=mv_do k so.mem hlast so.out io.near
 exact ⟨m,sibT m (toFo t),lastK (sibT m (toFo t)) (toFo t),rfl,k,by rw [h2,h4],rfl,rfl,io,o1,o2,o3,o4,o5⟩
end Go.Proofs.YtlkheeegkifblaaDoor.PL
namespace Go.Proofs.YtlkheeegkifblaaDoor.P
open Go.RowKit Go.Proofs.YtlkheeegkifblaaDoorW.PrintWords Go.Proofs.YtlkheeegkifblaaDoorW.PrintLast
attribute [local go_sem high] eqA27
end Go.Proofs.YtlkheeegkifblaaDoor.P
namespace Go.Proofs.YtlkheeegkifblaaDoor.PL
open Go.RowKit Go.Proofs.YtlkheeegkifblaaDoor.P Go.Proofs.YtlkheeegkifblaaDoorW.PrintWords Go.Proofs.YtlkheeegkifblaaDoorW.PrintLast Go.Proofs.YtlkheeegkifblaaDoor.FP
theorem lpAt_l0 (t:List S37) (id:Int) (hl:t.length≤1099511627776):∀ (n i:Nat),i+n=t.length→Ev (fun k=>laws_lpAt.l0 k t id i) (atFrom id (t.drop i) i)
 | 0,i,h=>by
  rw [List.drop_eq_nil_of_le (by omega)]
  refine Ev.step (f:=fun _=>some (-1)) (fun k=>?_) (evnow _)
  simp only [laws_lpAt.l0];rw [if_neg (by omega)]
 | n+1,i,h=>by
  have hi:i < t.length:=by omega
  rw [List.drop_eq_getElem_cons hi]
  unfold atFrom
  by_cases hq:t[i].f0=id
  ·rw [if_pos hq]
   refine Ev.step (f:=fun _=>some (i:Int)) (fun k=>?_) (evnow _)
   simp only [laws_lpAt.l0]
   rw [if_pos (by omega),if_pos (by omega),rdR_get t i hi,if_pos hq]
  ·rw [if_neg hq]
   refine Ev.step (fun k=>?_) (lpAt_l0 t id hl n (i+1) (by omega))
   simp only [laws_lpAt.l0]
   rw [if_pos (by omega),if_pos (by omega),rdR_get t i hi,if_neg hq,wrapS i (by omega) (by omega)]
   rfl
theorem lpAt_f (t:List S37) (id:Int) (hl:t.length≤1099511627776):Ev (fun k=>laws_lpAt.f k t id) (atI t id):=lpAt_l0 t id hl t.length 0 (by omega)
end Go.Proofs.YtlkheeegkifblaaDoor.PL
namespace Go.Proofs.YtlkheeegkifblaaDoor.P
open Go.RowKit Go.Proofs.YtlkheeegkifblaaDoorW.PrintWords Go.Proofs.YtlkheeegkifblaaDoorW.PrintLast
attribute [local go_sem high] eqA27
end Go.Proofs.YtlkheeegkifblaaDoor.P
namespace Go.Proofs.YtlkheeegkifblaaDoor.PL
open Go.RowKit Go.Proofs.YtlkheeegkifblaaDoor.P Go.Proofs.YtlkheeegkifblaaDoorW.PrintWords Go.Proofs.YtlkheeegkifblaaDoorW.PrintLast Go.Proofs.YtlkheeegkifblaaDoor.FP
theorem at_row {t:List S37} (ht:treeB t=true) {m:Nat} (hm:m∈(toFo t).ids):∃ (j:Nat) (h:j < t.length),atI t m=(j:Int)∧t[j].f1=(dep m 0 (toFo t):Int):=by
 obtain ⟨m',e0,_,_,pre,post,sp,hat⟩:=found ht (id:=(m:Int)) (by rw [fnd_nat hm];exact (val_of ht).ne0 m hm)
 obtain rfl:m=m':=by omega
 have hfl:=toFo_fl ht
 have hlt:pre.length < t.length:=by
  have:=spot_len sp
  rw [hfl] at this
  omega
 have hget:t[pre.length]=⟨(m:Int),(dep m 0 (toFo t):Int),txtF m (toFo t)⟩:=by
  have:=spot_get sp (by rw [hfl];exact hlt)
  simpa only [hfl] using this
 exact ⟨pre.length,hlt,hat,by rw [hget]⟩
theorem lpK_l0 (l:List Int) (hl:l.length≤1099511627776):∀ (n i:Nat),i+n=l.length→Ev (fun k=>laws_lpInts.l0 k l l i) true
 | 0,i,h=>by
  refine Ev.step (f:=fun _=>some true) (fun k=>?_) (evnow _)
  simp only [laws_lpInts.l0];rw [if_neg (by omega)]
 | n+1,i,h=>by
  refine Ev.step (fun k=>?_) (lpK_l0 l hl n (i+1) (by omega))
  simp only [laws_lpInts.l0]
  rw [if_pos (by omega),if_pos (by omega),if_pos (by omega)]
  simp only [if_true]
  rw [wrapS i (by omega) (by omega)]
  rfl
theorem lpK_f (l:List Int) (hl:l.length≤1099511627776):Ev (fun k=>laws_lpInts.f k l l) true:=by
 unfold laws_lpInts.f
 exact ev_pos rfl (lpK_l0 l hl l.length 0 (by omega))
theorem keyIn_j0 {t:List S37} {id:Int} (d:Dk t id) (r:Int×Int×Int×Int×ByteArray×Bool) (hr:r=keyR keyInF t id) (f:Bool) (hf:f=false→treeB t=true):Ev (fun n=>laws_FnKeyIn.j0 n t id r.2.2.2.2.2 r.2.2.2.2.2 f r.1 r.2.1 r.2.2.1 r.2.2.2.1 r.2.2.2.2.1 r.1 r.2.1 r.2.2.1 r.2.2.2.1 r.2.2.2.2.1) true:=by
 cases f with
 | true=>exact Ev.step (f:=fun _=>some true) (fun n=>by simp [laws_FnKeyIn.j0]) (evnow _)
 | false =>
  have ht:=hf rfl
  have hfew:=d.few
  refine Ev.step (fun n=>by simp only [laws_FnKeyIn.j0];rfl) ?_
  refine ev_neg (by decide) (Ev.bind (evnow (aheadR t id)) ?_)
  cases hb:r.2.2.2.2.2 with
  | true =>
   rw [hr] at hb
   obtain ⟨m,a,b,rfl,o⟩:=in_yes hb
   have am:=o.ok.sib.mem
   have ha0:=o.k.v.ne0 a am
   have mv:=o.ok.mv
   have k':=o.k.moved mv o.tree o.fo
   have e1:aheadR t m=((a:Int),true):=by
    unfold aheadR
    rw [ht,if_pos rfl,o.k.fnd,if_neg o.k.ne,if_neg (o.k.v.ne0 _ o.k.par),o.ea]
   have hp:FP.par m 0 (mvF (toFo t) (a,b) m)=a:=mv.par_new
   have e3:upR (opDoR t 3 m a b ⟨#[]⟩) m=((a:Int),true):=by unfold upR;rw [o.tree,if_pos rfl,k'.fnd,if_neg o.k.ne,o.fo,hp]
   have e4:kidsR t a=(sub a (toFo t)).tops.map Int.ofNat:=by unfold kidsR;rw [ht,if_pos rfl,fnd_nat am,if_neg ha0]
   have e5:kidsR (opDoR t 3 m a b ⟨#[]⟩) a=(sub a (toFo t)).tops.map Int.ofNat++[(m:Int)]:=by
    unfold kidsR
    rw [o.tree,if_pos rfl,o.fo,fnd_nat ((mv.ids a).2 am),if_neg ha0,o.ok.kids,List.map_append]
    rfl
   have hlen:(sub a (toFo t)).tops.length≤1000:=by
    have h5:=tops_few (sub a (toFo t))
    have h6:=(ids_del a (toFo t) o.k.v.nd am).length_eq
    have h7:=o.k.v.len
    simp only [List.length_cons,List.length_append] at h6
    omega
   obtain ⟨j,hj,ha,hdj⟩:=at_row ht o.k.mem
   obtain ⟨j',hj',ha',hdj'⟩:=at_row o.tree k'.mem
   have hdeep:=o.ok.deep
   rw [o.fo] at hdj'
   rw [hr,o.key,e1]
   have hop:=opOk_f 3 m a b ⟨#[]⟩ empty_size
   rw [o.op] at hop
   refine ev_pos rfl (Ev.bind (iopDo_f t 3 m a b ⟨#[]⟩ empty_size) (Ev.bind (evnow (upR (opDoR t 3 m a b ⟨#[]⟩) m)) (Ev.bind (evnow (kidsR (opDoR t 3 m a b ⟨#[]⟩) a)) (Ev.bind (evnow (kidsR t a)) (Ev.bind hop (ev_pos rfl ?_))))))
   rw [e3,e4,e5]
   refine ev_pos rfl (Ev.bind (ev_pos (by rw [List.length_map];omega) (lpK_f _ (by rw [List.length_append,List.length_map,List.length_singleton];omega))) (ev_pos rfl (Ev.bind (lpAt_f _ m (le40 ..)) ?_)))
   rw [ha']
   refine ev_pos (by omega) (ev_pos (by omega) (Ev.bind (lpAt_f t m (by omega)) ?_))
   rw [ha]
   refine ev_pos (by omega) (ev_pos (by omega) ?_)
   rw [rdR_get _ j' hj',rdR_get t j hj,hdj,hdj']
   have hdl:dep m 0 (toFo t) < 1000:=by
    have h1:=treeGo_rows t _ _ _ ht t[j] (List.getElem_mem hj)
    have h2:=(line_of h1).2.1
    omega
   rw [wrapS _ (by omega) (by omega)]
   have:(((dep m 0 (mvF (toFo t) (a,b) m):Nat):Int)==((dep m 0 (toFo t):Nat):Int)+1)=true:=beq_iff_eq.2 (by omega)
   rw [this]
   exact evnow _
  | false =>
   refine ev_neg (by decide) ?_
   unfold aheadR
   rw [ht,if_pos rfl]
   by_cases h0:fndF (toFo t) id=0
   ·rw [if_pos h0];exact ev_neg (by decide) (evnow _)
   ·rw [if_neg h0]
    obtain ⟨h1,h2⟩:=fndF_mem h0
    by_cases hp:FP.par (fndF (toFo t) id) 0 (toFo t)=0
    ·rw [if_pos hp];exact ev_neg (by decide) (evnow _)
    ·rw [if_neg hp]
     refine ev_pos rfl ?_
     rcases par_made ht h1 with ⟨g1,g2,g3⟩|⟨g1,g2,g3,g4,g5⟩
     ·exact absurd g3 hp
     ·have hk:Mk t (fndF (toFo t) id):=⟨ht,g2,h1⟩
      have hs:sibT (fndF (toFo t) id) (toFo t)=0:=by
       have e:keyR keyInF t id=keyInF (toFo t) (fndF (toFo t) id):=by rw [←hk.key keyInF,h2]
       rw [hr,e] at hb
       unfold keyInF at hb
       by_cases h:sibT (fndF (toFo t) id) (toFo t)=0
       ·exact h
       ·rw [if_neg h] at hb;cases hb
      simp only [hs]
      exact evnow _
theorem FnKeyIn:laws_FnKeyIn.Pure:=by
 intro l0 _ _ h0
 refine pure_of ?_
 unfold laws_FnKeyIn.f
 by_cases h:(l0.length:Int) > 1048576
 ·exact ev_pos h (evnow _)
 ·obtain ⟨t,id,hd,d⟩:=drawIn_f l0 h0
  refine ev_neg h (Ev.bind hd (Ev.bind (skeyIn_f t id (by have:=d.few;omega) d.wfR) (Ev.bind (evnow (keyR keyInF t id)) (ev_neg (by simp) (ev_neg (by simp) (Ev.bind d.tree ?_))))))
  exact keyIn_j0 d _ rfl _ fun h=>by simpa using h
end Go.Proofs.YtlkheeegkifblaaDoor.PL
namespace Go.Proofs.YtlkheeegkifblaaDoor.P
open Go.ChangeShapes Go.WideShapes Go.ChangeAt Go.RowKit
theorem tOwners:(Tryd.prog.globals[0]?).map (·.type)=some 66:=by kernel_rfl
theorem cOwners:Tryd.prog.cellsOf 66=37:=by kernel_rfl
theorem cInt:Tryd.prog.cellsOf 3=1:=by kernel_rfl
abbrev ownCells:Array Value:=(owners.map fun z=>Value.int .i64 z).toArray
theorem glob_of_laid {W:World} (h:laidMet Tryd.prog [("loop.example/plashet/impl.rowOwners",Rows.laid_loop_example_plashet_impl_rowOwners)] W):Glob W :=
 Lib.tabIs_of_head gOwners tOwners Tryd.underlying66 Tryd.underlying3 cInt cOwners h
theorem door_met (os:Os) (args:Array Value):laidMet Tryd.prog [("loop.example/plashet/impl.rowOwners",Rows.laid_loop_example_plashet_impl_rowOwners)] ((World.doorLaid Tryd.prog 400 os).forCall (fun _ _=>0) ⟨#[],args,[]⟩).memory :=
 laidMet_of_run' 8 (by kernel_rfl) (by kernel_rfl)
abbrev tableH {H:Type}:DataW H:=.agg (owners.map fun z=>.lit (.int .i64 z))
theorem reads_table {H:Type} (enc:TypeId×Value→H) (W:World) (sp:Nat→Bool):DataW.trod enc Tryd.prog W 0 sp true 3 66 ownCells.toList=some (tableH,[]):=by kernel_rfl
theorem tab_vars {H:Type} (enc:TypeId×Value→H) {W:World} (h:Glob W) {sp:Nat→Bool}:DataW.TrodVars enc Tryd.prog W sp ["loop.example/plashet/impl.rowOwners"] [tableH] (MemPlace.row ⟨0,0,none⟩ ownCells.size++[]++[]) :=
 ⟨0,66,ownCells,3,[],[],gOwners,tOwners,h,reads_table enc W sp,rfl,rfl⟩
end Go.Proofs.YtlkheeegkifblaaDoor.P
namespace Go.Proofs.YtlkheeegkifblaaDoor.fnKeyIn
open Go.ChangeMaps (open_string shut_string)
open Go.ChangeShapes Go.WideShapes Go.ChangeAt Go.RowKit
theorem own:ownKnob Tryd.prog.godebug=none:=by kernel_rfl
theorem laidOut:laidOutB Tryd.prog=true:=by kernel_rfl
def IsRow (k:IntKind) (w:World) (a:Option Addr) (len cap:Nat) (zs:List Int):Prop :=
 (a=none∧len=0∧cap=0∧zs=[]) ∨
 ∃ x,a=some x∧len≤cap∧cap≤maxLen∧zs.length=cap∧(∀ i,i < zs.length→w.cell? (x.add i)=some (.int k (zs.getD i 0)))∧∀ n∈zs,(Lit.int k n).wf=true
theorem lifted (os:Os) (started:os.Started) (H:Type) (enc:TypeId×Value→H) :
  ReturnsInHanded {} Tryd.checked os 9 .any (fun w args=>(Rows.fnKeyInSpec.pre enc Tryd.prog Tryd.f9 [] false w args∧laidMet Tryd.prog [("loop.example/plashet/impl.rowOwners",Rows.laid_loop_example_plashet_impl_rowOwners)] w)∧sizedMet enc Tryd.prog Tryd.f9 (OpenSpec.ofChange Rows.fnKeyInSpec) false w args) (Rows.fnKeyInSpec.post enc Tryd.prog Tryd.f9 false true false false):=by
 refine returnsInHanded_of_change_and (C:=Tryd.checked) (X:=fun w _=>laidMet Tryd.prog [("loop.example/plashet/impl.rowOwners",Rows.laid_loop_example_plashet_impl_rowOwners)] w) (fun _ _ _ hh h=>h.of_heap hh) own started (by kernel_rfl) Tryd.func9
  (ChangeSpec.witness_shaped (enc:=enc) (C:=Tryd.checked) (os:=os) (X:=fun w _=>laidMet Tryd.prog [("loop.example/plashet/impl.rowOwners",Rows.laid_loop_example_plashet_impl_rowOwners)] w) false (World.doorLaid Tryd.prog 400 os) #[.slice none 0 0] 8 rfl (World.shaped_of_RefB (by kernel_rfl) (by kernel_rfl)) (by kernel_rfl) (by kernel_rfl) (by kernel_rfl) (P.door_met os _)) ?_
 intro W base args ds gs before hval0 hW _ hsz0 hL _
 have hsz:(DataW.weightsEach Tryd.prog (Tryd.f9.params.toList++Rows.fnKeyInSpec.plain.varTypes Tryd.prog) (ds++gs)).all (·≤reachBytes)=true:=hsz0
 have hval:∀ (j:Nat) t v,Tryd.f9.params[j]?=some t→args[j]?=some v→Value.okWide Tryd.prog W .any base t v:=hval0
 have hW':=hW
 obtain ⟨p,q,hA0,hV,rfl,hfz,hnd⟩:=hW
 have hA:DataW.TrodAll enc Tryd.prog W 0 (fun _=>true) true Tryd.f9.params.toList args.toList ds p:=hA0
 rw [Tryd.params9] at hA hval hsz
 obtain ⟨v0,vs0,d0,ds0,p0,q0,hargs,rfl,rfl,h0,r0⟩:=trodAll_cons hA
 obtain ⟨rfl,rfl,rfl⟩:=trodAll_nil r0
 obtain rfl:args=#[v0]:=by cases args;simp_all
 have hG:P.Glob W:=P.glob_of_laid hL
 obtain ⟨gv,tv,csv,fuelv,dv,pv,rfl,hgv,htv,hvarv,hdv,rfl⟩:=trodVars_one hV
 obtain rfl:csv=P.ownCells:=Option.some.inj (hvarv.symm.trans hG)
 obtain rfl:=Option.some.inj (P.tOwners.symm.trans (by rw [Option.some.inj (P.gOwners.symm.trans hgv)];exact htv))
 obtain ⟨rfl,rfl⟩:=DataW.Trod.unique (v:=.agg P.ownCells) ⟨fuelv,hdv⟩ ⟨3,P.reads_table enc W _⟩
 obtain ⟨a0,len0,cap0,rfl⟩:=okWide_slice Tryd.underlying22 (hval 0 22 v0 rfl rfl)
 have k0:=h0
 have lt0:∀ x∈p0,x.block < W.heap.size:=by obtain ⟨m,hm⟩:=k0;exact DataW.trod_lt m _ _ _ hm
 obtain ⟨z0,w0⟩:∃ zs,IsRow .u8 W a0 len0 cap0 zs:=by
  obtain ⟨fuel,hf⟩:=h0
  rcases open_ints Tryd.underlying22 Tryd.underlying5 (by kernel_rfl) hf with ⟨hcs,_⟩|⟨x,l,c,zs,hcs,_,hl,hm,hz,_,hcell,hwz⟩
  ·simp [Value.cells] at hcs
   obtain ⟨rfl,rfl,rfl⟩:=hcs
   exact ⟨[],.inl ⟨rfl,rfl,rfl,rfl⟩⟩
  ·simp [Value.cells] at hcs
   obtain ⟨rfl,rfl,rfl⟩:=hcs
   exact ⟨zs,.inr ⟨_,rfl,hl,hm,by simpa using hz,hcell,hwz⟩⟩
 have y0:len0 * 1≤140737488351232:=Go.Proofs.YtlkheeegkifblaaDoorW.PrintWords.sized_ints hsz (j:=0) (t:=22) rfl rfl Tryd.underlying22 Tryd.underlying5 (by kernel_rfl) (by kernel_rfl) h0
 clear hA0 hval0 hsz0 hsz
 refine (P.laws_FnKeyIn.walk PL.FnKeyIn a0 len0 cap0 z0 W w0 y0 hG).mono fun e W' ⟨he,bel⟩=>?_
 subst he
 exact ⟨_,rfl,_,_,_,_,_,_,hW',trodAll_mk1 (shut_bool Tryd.underlying4 _),(trodAll_cons_mk (Below.trod laidOut (by kernel_rfl) (of_decide_eq_true (by kernel_rfl)) k0 bel lt0) trodAll_mk0),P.tab_vars enc (hG.below bel),bel.frame _,fun h=>by cases h⟩
theorem over:Rows.fnKeyInRow.holds Tryd.pinned (OpenSpec.ofChange Rows.fnKeyInSpec) :=
 OpenClaim.holds_of_wide 9 Tryd.f9 rfl rfl rfl rfl rfl rfl rfl ⟨rfl,rfl,rfl,rfl,rfl⟩ rfl rfl rfl rfl rfl (by kernel_rfl) Tryd.func9 (by kernel_rfl)
  (of_decide_eq_true (by kernel_rfl)) (by unfold Func.isWrapper;first|(rw [if_pos (by decide +kernel)];kernel_rfl)|(rw [if_neg (by decide +kernel)];exact ⟨rfl,rfl⟩))
  (fun os started H enc _=>lifted os started H enc)
theorem proved:Rows.FnKeyInSaid:=over
#print axioms proved
end Go.Proofs.YtlkheeegkifblaaDoor.fnKeyIn
namespace Go.Proofs.YtlkheeegkifblaaDoor
theorem fnKeyIn_holds:Rows.FnKeyInSaid:=fnKeyIn.proved
end Go.Proofs.YtlkheeegkifblaaDoor
namespace Go.Proofs.YtlkheeegkifblaaDoor
open Go
theorem fnKeyInCard_holds:Rows.FnKeyInCardSaid :=
 Claim7.holds_tied_plain_at .later [] [.data] true (true, "eaacb49e37206468e585e4739738b6d4558eee5b1031375a36bb2efdb5ba73e0") true
  fnKeyIn_holds (fun _ h=>by cases h) (by kernel_rfl) (fun _ h=>by cases h) fnKeyIn_row_tie rfl ⟨rfl,rfl⟩ (by kernel_rfl) rfl
  (fun f fn hf hfn=>by
   obtain rfl:f=9:=Option.some.inj ((show Tryd.prog.funcNamed "loop.example/plashet/laws.FnKeyIn" = some 9 by kernel_rfl).symm.trans hf) |>.symm
   obtain rfl:fn=Tryd.f9:=(Option.some.inj (Tryd.func9.symm.trans hfn)).symm
   exact ⟨by kernel_rfl,fun j t ht=>by
    rw [Tryd.params9] at ht
    have hm:t∈[22]:=by have:=Array.mem_of_getElem? ht;simp at this;first|(subst this;simp;done)|(rcases this with h|h <;> simp [h];done)|(rcases this with h|h|h <;> simp [h];done)
    have hall:([22].all fun u=>!Tryd.prog.wantsStandIn u)=true:=by kernel_rfl
    exact (show Tryd.prog.wantsStandIn t=false by simpa using List.all_eq_true.1 hall t hm)⟩)
  (by kernel_rfl)
#print axioms fnKeyInCard_holds
end Go.Proofs.YtlkheeegkifblaaDoor
