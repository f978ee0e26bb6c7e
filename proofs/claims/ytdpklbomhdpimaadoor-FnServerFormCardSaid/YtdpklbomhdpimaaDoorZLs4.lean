/- Joined by a program (wip/shake.py): the declarations that 'YtdpklbomhdpimaaDoorCardFnServerForm' reaches. -/
import Derived.Test.YtdpklbomhdpimaaDoorZLs3
set_option linter.unusedVariables false
set_option linter.unusedSimpArgs false
set_option linter.unusedSectionVars false
set_option maxHeartbeats 8000000
set_option maxRecDepth 100000
namespace Go.Proofs.YtdpklbomhdpimaaDoor.P
open Go.RowKit Go.Maps Go.Proofs.YtdpklbomhdpimaaDoorW.PrintWords Go.Proofs.YtdpklbomhdpimaaDoorW.PrintLast Go.Proofs.YtdpklbomhdpimaaDoorW.PrintMore
theorem wf_small (x:Int) (h:-1000000≤x∧x≤1000000):(Lit.int .i64 x).wf=true:=by
 have e:wrap64 x=x:=by unfold wrap64;omega
 rw [←e]
 exact wrap64_wf _
theorem keyI:Keyed Tryd.prog 3:=int_keyed Tryd.underlying3
theorem zeroI (w:World):(zeroValue 3).run Tryd.prog w=.ok (.int .i64 0) w:=by kernel_rfl
def CntMap (w:World) (b:Nat) (c:Int→Int) (n:Nat):Prop :=
 ∃ D:DataW Unit,w.ownsMap Tryd.prog 3 (plainElem Tryd.prog 3) b n D∧∀ x,D.atKey (.int .i64 x) (.lit (.int .i64 0))=.lit (.int .i64 (c x))
def upd (c:Int→Int) (x:Int):Int→Int:=fun y=>if y=x then c x+1 else c y
theorem CntMap.alloc {w:World} {b:Nat} {c:Int→Int} {n:Nat} (h:CntMap w b c n) (o:Obj):CntMap (w.alloc o) b c n:=by
 obtain ⟨D,h1,h2⟩:=h
 exact ⟨D,h1.alloc o,h2⟩
theorem CntMap.drew {w:World} {b:Nat} {c:Int→Int} {n:Nat} (h:CntMap w b c n):CntMap w.drew b c n:=by
 obtain ⟨D,h1,h2⟩:=h
 exact ⟨D,h1.drew,h2⟩
theorem CntMap.grown {w w':World} {b:Nat} {c:Int→Int} {n:Nat} {row:Option Nat} (h:CntMap w b c n) (hg:w.grownBy w' row) (hne:some b≠row):CntMap w' b c n:=by
 obtain ⟨D,h1,h2⟩:=h
 exact ⟨D,h1.kept hg hne,h2⟩
theorem CntMap.below {w w':World} {b:Nat} {c:Int→Int} {n:Nat} (h:CntMap w b c n) (hb:Below w.heap.size w w'):CntMap w' b c n:=by
 obtain ⟨D,h1,h2⟩:=h
 refine ⟨D,?_,h2⟩
 have hl:=h1.lt
 obtain ⟨es,clock,e1,e2,e3,e4⟩:=h1
 exact ⟨es,clock,(hb.block b hl).trans e1,e2,e3,e4⟩
def AddPost (w:World) (b:Nat) (c:Int→Int) (x:Int) (n:Nat) (e:Ending) (w':World):Prop:=e=.returned (.int .i64 (c x+1))∧CntMap w' b (upd c x) (n+1)∧w.grownBy w' (some b)
theorem add_any (b:Nat) (c:Int→Int) (x:Int) (n:Nat) (w:World) (hx:0≤x∧x≤4) (hc:0≤c x∧c x≤1000) (hn:n≤1000) (hM:CntMap w b c n) :
  Calls Tryd.prog 87 #[.map (some b),.int .i64 x] w (AddPost w b c x n):=by
 obtain ⟨D,hown,hat⟩:=hM
 have hkey:keyOf Tryd.prog 3 (.int .i64 x)=some (.int .i64 x):=keyOf_int_mk Tryd.underlying3 (wf_small x (by omega))
 have HAT:=a_ (hat x)
 have HATS:=a_ hat
 clear hat
 have hwf:(Lit.int .i64 (c x+1)).wf=true:=wf_small _ (by omega)
 have HC:=a_ hc
 clear hc
 go_enter Tryd.func87,Tryd.ntmps87
 go_wp2_with (first
  | (at_lookup;refine wpList_lookup_own_int _ rfl (.tmp 5) (.tmp 6) 114 rfl 3 3 .i64 keyI Tryd.underlying114 Tryd.underlying3 (zeroI _) b n D rfl hown _ _ rfl hkey ?_;intro z hz hwz;have ez:z=c x:=(by have:=HAT.out.symm.trans hz;injection this with this;injection this with _ this;exact this.symm);subst ez;clear hz hwz;have hcb:=HC.out)
  | (at_mapUpdate;refine wpList_mapUpdate_own _ rfl _ _ _ 114 rfl 3 3 keyI Tryd.underlying114 _ b n D rfl hown (by unfold maxLen;omega) _ _ _ rfl rfl hkey _ [] (plainElem_int Tryd.underlying3 hwf) ?_;intro w1 hown1 hgrow1;have HG1:=a_ hgrow1;clear hgrow1;have HAT1:=a_ (atKey_put_same hown.isMap (k:=.int .i64 x) trivial (.lit (.int .i64 (c x+1))) (.lit (.int .i64 0))))
  | (at_lookup;refine wpList_lookup_own_int _ rfl (.tmp 9) (.tmp 10) 114 rfl 3 3 .i64 keyI Tryd.underlying114 Tryd.underlying3 (zeroI _) b (n+1) _ rfl hown1 _ _ rfl hkey ?_;intro z hz hwz;have ez:z=c x+1:=(by have:=HAT1.out.symm.trans hz;injection this with this;injection this with _ this;exact this.symm);subst ez;clear hz hwz))
 go_ret
 refine ⟨rfl,⟨_,hown1,fun y=>?_⟩,HG1.out⟩
 unfold upd
 by_cases hy:y=x
 ·rw [if_pos hy,hy]
  exact HAT1.out
 ·rw [if_neg hy,atKey_put_other (by intro e;injection e with _ e;exact hy e),HATS.out]
def cntE (l:List S44) (who:Int):Int:=(l.countP fun e=>e.f0==who:Nat)
theorem cntE_snoc (l:List S44) (e:S44):cntE (l++[e])=upd (cntE l) e.f0:=by
 funext y
 unfold cntE upd
 rw [List.countP_append]
 by_cases h:y=e.f0
 ·subst h
  simp
 ·have h':(e.f0==y)=false:=beq_eq_false_iff_ne.2 (fun q=>h q.symm)
  rw [if_neg h]
  simp [h']
theorem cntE_le (l:List S44) (who:Int):0≤cntE l who∧cntE l who≤l.length:=by
 unfold cntE
 have:=List.countP_le_length (p:=fun e:S44=>e.f0==who) (l:=l)
 omega
def impl_LogOk.go (k:Nat):List S44→List S44→Option Bool
 | _,[]=>some true
 | pre,e::rest=>(impl_EntryOk.f k e.f0 e.f1 e.f2.f0 e.f2.f1 e.f2.f2 e.f2.f3 e.f2.f4).bind fun t =>
   if t=true then (if cntE pre e.f0+1=e.f1 then impl_LogOk.go k (pre++[e]) rest else some false) else some false
def impl_LogOk.f (k:Nat) (l0:List S44):Option Bool:=if (l0.length:Int) > 40 then some false else impl_LogOk.go k [] l0
theorem impl_LogOk.mono_go (k:Nat):∀ (rest pre:List S44),LeO (impl_LogOk.go k pre rest) (impl_LogOk.go (k+1) pre rest)
 | [],_=>LeO.refl _
 | e::rest,pre=>by
  unfold impl_LogOk.go
  exact LeO.bind (impl_EntryOk.mono _ _ _ _ _ _ _ _) (fun _=>LeO.ite (LeO.ite (impl_LogOk.mono_go k rest _) (LeO.refl _)) (LeO.refl _))
theorem impl_LogOk.mono (l0:List S44) (k:Nat):LeO (impl_LogOk.f k l0) (impl_LogOk.f (k+1) l0):=by
 unfold impl_LogOk.f
 exact LeO.ite (LeO.refl _) (impl_LogOk.mono_go k _ _)
theorem entry_who {k:Nat} {a0 a1 a2 a3 a4 a5:Int} {a6:ByteArray} (h:impl_EntryOk.f k a0 a1 a2 a3 a4 a5 a6=some true):1≤a0∧a0≤3:=by
 unfold impl_EntryOk.f at h
 obtain ⟨t,ht,h⟩:=Option.bind_eq_some_iff.1 h
 cases t with
 | false=>simp at h
 | true =>
  unfold impl_whoOk.f at ht
  by_cases h1:a0≥1
  ·rw [if_pos h1] at ht
   exact ⟨h1,of_decide_eq_true (sj_ ht)⟩
  ·rw [if_neg h1] at ht
   cases ht
def LogRel (k:Nat) (l0:List S44) (r:Bool) (w:World) (i:Value) (wr:World):Prop :=
 ∃ j:Int,0≤j∧j≤l0.length∧i=.int .i64 j∧impl_LogOk.go k (l0.take j.toNat) (l0.drop j.toNat)=some r∧CntMap wr w.heap.size (cntE (l0.take j.toNat)) j.toNat∧Below w.heap.size w wr
theorem impl_LogOk.calls (k:Nat) (A0:Option Addr) (c0:Nat) (l0:List S44) (r:Bool) (w:World) (hr0:Kd.C k44 w A0 l0.length l0) (hc0:l0.length≤c0) (h:impl_LogOk.f k l0=some r) (hG:Glob w) :
  Calls Tryd.prog 42 #[.slice A0 l0.length c0] w fun e w'=>e=.returned (.bool r)∧Below w.heap.size w w':=by
 have HR0:=a_ hr0
 have HG:=a_ hG
 clear hr0 hG
 unfold impl_LogOk.f at h
 have hmm:=@run_makeMap Tryd.prog
 by_cases h40:(l0.length:Int) > 40
 ·rw [if_pos h40] at h
  obtain rfl:=sj_ h
  clear h hmm
  have hd:decide (40 < l0.length)=true:=dt_ (by omega)
  go_enter Tryd.func42,Tryd.ntmps42
  go_wp2
  go_ret
  exact ⟨rfl,Below.refl _ _⟩
 ·rw [if_neg h40] at h
  have HH:=a_ h
  clear h
  have hd:decide (40 < l0.length)=false:=df_ (by omega)
  have hlen:l0.length≤40:=by omega
  go_enter Tryd.func42,Tryd.ntmps42
  go_wp2
  have hM0:CntMap (w.alloc (.map #[] 0)) w.heap.size (cntE []) 0:=⟨.map [],World.ownsMap_made _ _ _ _,fun x=>rfl⟩
  have HM0:=a_ hM0
  clear hM0
  go_loopw [12] (fun i wr=>LogRel k l0 r w i wr) (fun i _=>l0.length - (intOf i).toNat)
  case atStart=>exact ⟨0,Int.le_refl _,by omega,rfl,HH.out,HM0.out,below_box0 w _⟩
  case round =>
   obtain ⟨j,hj0,hj,rfl,hgo,hM,hB⟩:=hrel
   have HM:=a_ hM
   have HB:=a_ hB
   have HGO:=a_ hgo
   clear hM hB hgo HH HM0
   by_cases hlt:j < l0.length
   ·have hd1:decide (j < (l0.length:Int))=true:=dt_ hlt
    obtain ⟨ad,e,hx0,hx1,hx2,hx3,hx4,hx5,hx6⟩:=at_T44 HR0.out j hj0 hlt
    cases e
    replace hx0:=(cb_ HB.out hx0 :)
    replace hx1:=(cb_ HB.out hx1 :)
    replace hx2:=(cb_ HB.out hx2 :)
    replace hx3:=(cb_ HB.out hx3 :)
    replace hx4:=(cb_ HB.out hx4 :)
    replace hx5:=(cb_ HB.out hx5 :)
    replace hx6:=(cb_ HB.out hx6 :)
    have hu:=Tryd.underlying44
    have hxe:rd_T44 l0 j=l0[j.toNat]'(by omega):=by
     unfold rd_T44
     rw [List.getD_eq_getElem?_getD,List.getElem?_eq_getElem (by omega)]
     rfl
    have htd:=List.drop_eq_getElem_cons (l:=l0) (i:=j.toNat) (by omega)
    have htk:=List.take_succ_eq_append_getElem (l:=l0) (i:=j.toNat) (by omega)
    rw [←hxe] at htd htk
    have hgo:=HGO.out
    rw [htd] at hgo
    clear HGO hxe
    generalize rd_T44 l0 j=x at hx0 hx1 hx2 hx3 hx4 hx5 hx6 htd htk hgo
    rw [show j.toNat+1=(j+1).toNat by omega] at htd htk hgo
    unfold impl_LogOk.go at hgo
    have hjb:j≤40:=by omega
    have p1:=eq_true hj0
    have q1:=eq_true hlt
    have hM1:=HM.out.alloc (.cells #[.int .i64 x.f0,.int .i64 x.f1,.int .i64 x.f2.f0,.int .i64 x.f2.f1,.int .i64 x.f2.f2,.int .i64 x.f2.f3,.string x.f2.f4] 44)
    have hcn:=cntE_le (l0.take j.toNat) x.f0
    have hcl:(l0.take j.toNat).length≤40:=by rw [List.length_take];omega
    have hsn:=cntE_snoc (l0.take j.toNat) x
    rw [←htk] at hsn
    rw [←htk] at hgo
    have HM1:=a_ hM1
    have HSN:=a_ hsn
    have HGO:=a_ hgo
    have HTD:=a_ htd
    have HCN:=a_ hcn
    have HCL:=a_ hcl
    have HJN:=a_ (show j.toNat≤1000∧0≤j∧j < l0.length from ⟨by omega,hj0,hlt⟩)
    have HB0:=HB
    have HL:=a_ (show w.heap.size < wr.heap.size from by obtain ⟨D,h1,_⟩:=HM.out;exact h1.lt)
    have HB1:=a_ (wA_ HB.out (.cells #[.int .i64 x.f0,.int .i64 x.f1,.int .i64 x.f2.f0,.int .i64 x.f2.f1,.int .i64 x.f2.f2,.int .i64 x.f2.f3,.string x.f2.f4] 44))
    clear hj0 hlt hM1 hcn hcl htd htk hsn hgo HM HB
    go_wp2
    have hwr:w.heap.size≤wr.heap.size∧w.heap.size < wr.heap.size:=by
     obtain ⟨D,h1,_⟩:=HM1.out
     have h2:=HB0.out.size
     exact ⟨h2,HL.out⟩
    have HW:=a_ hwr
    clear hwr
    obtain ⟨W1,hW1⟩:∃ W1,W1=wr.alloc (.cells #[.int .i64 x.f0,.int .i64 x.f1,.int .i64 x.f2.f0,.int .i64 x.f2.f1,.int .i64 x.f2.f2,.int .i64 x.f2.f3,.string x.f2.f4] 44):=⟨_,rfl⟩
    have hn0:W1.heap[wr.heap.size]?=some (.cells #[.int .i64 x.f0,.int .i64 x.f1,.int .i64 x.f2.f0,.int .i64 x.f2.f1,.int .i64 x.f2.f2,.int .i64 x.f2.f3,.string x.f2.f4] 44 (0,0)):=by rw [hW1];simpa using heap_alloc_new wr _
    have HN0:=a_ hn0
    rw [←hW1] at HM1 HB1 ⊢
    clear hW1 hx0 hx1 hx2 hx3 hx4 hx5 hx6 hn0
    generalize wr.heap.size=g at HN0 HW ⊢
    have hc0:W1.cell? ⟨g,0,none⟩=some (.int .i64 x.f0):=(bC_ HN0.out 0).trans rfl
    have hc1:W1.cell? ⟨g,1,none⟩=some (.int .i64 x.f1):=(bC_ HN0.out 1).trans rfl
    have hc2:W1.cell? ⟨g,2,none⟩=some (.int .i64 x.f2.f0):=(bC_ HN0.out 2).trans rfl
    have hc3:W1.cell? ⟨g,3,none⟩=some (.int .i64 x.f2.f1):=(bC_ HN0.out 3).trans rfl
    have hc4:W1.cell? ⟨g,4,none⟩=some (.int .i64 x.f2.f2):=(bC_ HN0.out 4).trans rfl
    have hc5:W1.cell? ⟨g,5,none⟩=some (.int .i64 x.f2.f3):=(bC_ HN0.out 5).trans rfl
    have hc6:W1.cell? ⟨g,6,none⟩=some (.string x.f2.f4):=(bC_ HN0.out 6).trans rfl
    have hgo:=HGO.out
    clear HGO
    obtain ⟨t,ht,hgo⟩:=Option.bind_eq_some_iff.1 hgo
    have HT:=a_ ht
    clear ht
    have HBd:=a_ (below_drew1 HB1.out)
    have HGd:=a_ (HG.out.below HBd.out)
    have HMd:=a_ HM1.out.drew
    have HNd:=a_ (bD_ HN0.out)
    have hwho:=fun (e:t=true)=>entry_who (k:=k) (e ▸ HT.out)
    clear HB1 HM1 HN0
    cases t with
    | false =>
     simp only [Bool.false_eq_true,if_false,Option.some.injEq] at hgo
     subst hgo
     clear hwho
     refine start_ (n:=12) (S:=fun w'=>w'.cell? ⟨g,0,none⟩=some (.int .i64 x.f0)∧w'.cell? ⟨g,1,none⟩=some (.int .i64 x.f1)∧w'.cell? ⟨g,2,none⟩=some (.int .i64 x.f2.f0)∧w'.cell? ⟨g,3,none⟩=some (.int .i64 x.f2.f1)∧w'.cell? ⟨g,4,none⟩=some (.int .i64 x.f2.f2)∧w'.cell? ⟨g,5,none⟩=some (.int .i64 x.f2.f3)∧w'.cell? ⟨g,6,none⟩=some (.string x.f2.f4)) (ds:=[]) #[false,false,false,false,false,false,false,false,false,false,false,false] (by kernel_rfl) rfl rfl ⟨(bC_ HNd.out 0).trans rfl,(bC_ HNd.out 1).trans rfl,(bC_ HNd.out 2).trans rfl,(bC_ HNd.out 3).trans rfl,(bC_ HNd.out 4).trans rfl,(bC_ HNd.out 5).trans rfl,(bC_ HNd.out 6).trans rfl⟩ (fun hHeld=>?_)
     refine take_ (i:=0) (N:=some 16) (v:=?_) (a':=?_) #[true,false,false,false,false,false,false,false,false,false,false,false] rfl rfl (by kernel_rfl) (fun _ _ _ h=>h) (Or.inl ⟨by rfl,?_⟩) hHeld ?_ ?_
     rotate_left
     ·rintro w' ⟨s0,s1,s2,s3,s4,s5,s6⟩
      go_simp
      with_reducible rfl
     rotate_left
     ·simp only [Act.put,List.setIfInBounds_toArray,List.set_cons_zero,List.set_cons_succ,i64_w,i32_w]
      rfl
     refine one_ (i:=1) (N:=some 17) #[true,true,false,false,false,false,false,false,false,false,false,false] rfl rfl (by kernel_rfl) (by decide) (fun K hK=>?_)
     refine goes_ Tryd.func78 (by kernel_rfl) rfl #[.agg #[.int .i64 x.f0,.int .i64 x.f1,.int .i64 x.f2.f0,.int .i64 x.f2.f1,.int .i64 x.f2.f2,.int .i64 x.f2.f3,.string x.f2.f4]] (by rfl) rfl rfl (by (try simp only [List.map_toArray,List.map_cons,List.map_nil]);first|done|rfl) ?_
     with_reducible refine (impl_EntryOk.calls k x.f0 x.f1 x.f2.f0 x.f2.f1 x.f2.f2 x.f2.f3 x.f2.f4 false _ HT.out HGd.out).mono ?_
     rintro e w2 ⟨rfl,hb⟩
     refine ⟨_,rfl,?_⟩
     have HB2:=a_ (bS_ HBd.out hb)
     have HN2:=a_ (blk_below HNd.out hb)
     clear hb
     refine hK.out _ _ ⟨(bC_ HN2.out 0).trans rfl,(bC_ HN2.out 1).trans rfl,(bC_ HN2.out 2).trans rfl,(bC_ HN2.out 3).trans rfl,(bC_ HN2.out 4).trans rfl,(bC_ HN2.out 5).trans rfl,(bC_ HN2.out 6).trans rfl⟩ (fun hHeld2=>?_)
     clear hK K
     refine no_ 17 ?_
     refine pure_ (i:=2) (N:=some 18) (v:=?_) (a':=?_) #[true,true,true,false,false,false,false,false,false,false,false,false] rfl rfl (by kernel_rfl) (fun _ _ _ h=>h) (Or.inl ⟨by rfl,?_⟩) ?_ ?_
     rotate_left
     ·intro w'
      go_simp
      with_reducible rfl
     rotate_left
     ·simp only [Act.put,List.setIfInBounds_toArray,List.set_cons_zero,List.set_cons_succ,i64_w,i32_w]
      rfl
     refine pure_ (i:=3) (N:=some 19) (v:=?_) (a':=?_) #[true,true,true,true,false,false,false,false,false,false,false,false] rfl rfl (by kernel_rfl) (fun _ _ _ h=>h) (Or.inl ⟨by rfl,?_⟩) ?_ ?_
     rotate_left
     ·intro w'
      go_simp
      with_reducible rfl
     rotate_left
     ·simp only [Act.put,List.setIfInBounds_toArray,List.set_cons_zero,List.set_cons_succ,i64_w,i32_w]
      rfl
     refine pure_ (i:=4) (N:=some 20) (v:=undef) (a':=?_) #[true,true,true,true,true,false,false,false,false,false,false,false] rfl rfl (by kernel_rfl) (fun _ _ _ h=>h) (Or.inr ⟨by rfl,rfl⟩) ?_ ?_
     rotate_left
     ·simp only [Act.put,List.setIfInBounds_toArray,List.set_cons_zero,List.set_cons_succ,i64_w,i32_w]
      rfl
     refine pure_ (i:=5) (N:=some 21) (v:=undef) (a':=?_) #[true,true,true,true,true,true,false,false,false,false,false,false] rfl rfl (by kernel_rfl) (fun _ _ _ h=>h) (Or.inr ⟨by rfl,rfl⟩) ?_ ?_
     rotate_left
     ·simp only [Act.put,List.setIfInBounds_toArray,List.set_cons_zero,List.set_cons_succ,i64_w,i32_w]
      rfl
     refine pure_ (i:=6) (N:=some 22) (v:=undef) (a':=?_) #[true,true,true,true,true,true,true,false,false,false,false,false] rfl rfl (by kernel_rfl) (fun _ _ _ h=>h) (Or.inr ⟨by rfl,rfl⟩) ?_ ?_
     rotate_left
     ·simp only [Act.put,List.setIfInBounds_toArray,List.set_cons_zero,List.set_cons_succ,i64_w,i32_w]
      rfl
     refine pure_ (i:=7) (N:=some 23) (v:=undef) (a':=?_) #[true,true,true,true,true,true,true,true,false,false,false,false] rfl rfl (by kernel_rfl) (fun _ _ _ h=>h) (Or.inr ⟨by rfl,rfl⟩) ?_ ?_
     rotate_left
     ·simp only [Act.put,List.setIfInBounds_toArray,List.set_cons_zero,List.set_cons_succ,i64_w,i32_w]
      rfl
     refine pure_ (i:=8) (N:=some 24) (v:=undef) (a':=?_) #[true,true,true,true,true,true,true,true,true,false,false,false] rfl rfl (by kernel_rfl) (fun _ _ _ h=>h) (Or.inr ⟨by rfl,rfl⟩) ?_ ?_
     rotate_left
     ·simp only [Act.put,List.setIfInBounds_toArray,List.set_cons_zero,List.set_cons_succ,i64_w,i32_w]
      rfl
     refine pure_ (i:=9) (N:=some 25) (v:=undef) (a':=?_) #[true,true,true,true,true,true,true,true,true,true,false,false] rfl rfl (by kernel_rfl) (fun _ _ _ h=>h) (Or.inr ⟨by rfl,rfl⟩) ?_ ?_
     rotate_left
     ·simp only [Act.put,List.setIfInBounds_toArray,List.set_cons_zero,List.set_cons_succ,i64_w,i32_w]
      rfl
     refine pure_ (i:=10) (N:=some 26) (v:=undef) (a':=?_) #[true,true,true,true,true,true,true,true,true,true,true,false] rfl rfl (by kernel_rfl) (fun _ _ _ h=>h) (Or.inr ⟨by rfl,rfl⟩) ?_ ?_
     rotate_left
     ·simp only [Act.put,List.setIfInBounds_toArray,List.set_cons_zero,List.set_cons_succ,i64_w,i32_w]
      rfl
     refine pure_ (i:=11) (N:=some 27) (v:=?_) (a':=?_) #[true,true,true,true,true,true,true,true,true,true,true,true] rfl rfl (by kernel_rfl) (fun _ _ _ h=>h) (Or.inl ⟨by rfl,?_⟩) ?_ ?_
     rotate_left
     ·intro w'
      go_simp
      with_reducible rfl
     rotate_left
     ·simp only [Act.put,List.setIfInBounds_toArray,List.set_cons_zero,List.set_cons_succ,i64_w,i32_w]
      rfl
     refine done_ (by kernel_rfl) ?_
     go_wp2
     go_ret
     exact ⟨rfl,HB2.out⟩
    | true =>
     simp only [if_true] at hgo
     have hx13:=hwho rfl
     have HX:=a_ (show 0≤x.f0∧x.f0≤4 from ⟨by omega,by omega⟩)
     have HC:=a_ (show 0≤cntE (l0.take j.toNat) x.f0∧cntE (l0.take j.toNat) x.f0≤1000 from ⟨HCN.out.1,by have:=HCN.out.2;have:=HCL.out;omega⟩)
     clear hwho hx13
     have HGO:=a_ hgo
     clear hgo
     generalize cntE (l0.take j.toNat)=c at HMd HSN HCN HGO HC
     by_cases hq:c x.f0+1=x.f1
     ·have hgo:=HGO.out
      rw [if_pos hq] at hgo
      clear HGO
      have HGO:=a_ hgo
      clear hgo
      have b1:(c x.f0+1 != x.f1)=false:=bne_eq_false_iff_eq.2 hq
      clear hq
      go_region_with (first
       | (go_at_call 78;refine (impl_EntryOk.calls k _ _ _ _ _ _ _ true _ HT.out HGd.out).mono ?_;rintro e w2 ⟨rfl,hb⟩;have HB2:=a_ (bS_ HBd.out hb);have HM2:=a_ (HMd.out.below hb);have HN2:=a_ (blk_below HNd.out hb);clear hb;have hd0:=(bC_ HN2.out 0).trans rfl;have hd1:=(bC_ HN2.out 1).trans rfl)
       | (go_at_call 87;refine (add_any _ _ _ _ _ HX.out HC.out HJN.out.1 HM2.out).mono ?_;rintro e w3 ⟨rfl,hM3,hg3⟩;have HM3:=a_ hM3;have HN3:=a_ ((hg3.block g (blk_lt HN2.out) (by intro e;cases e;have:=HW.out;omega)).trans HN2.out);have HB3:=a_ (HB2.out.grown hg3 HB2.out.size (fun j hj=>by cases hj;exact Nat.le_refl _));clear hM3 hg3;have hf0:=(bC_ HN3.out 0).trans rfl;have hf1:=(bC_ HN3.out 1).trans rfl))
      all_goals go_wp2
      all_goals have hjj:=HJN.out
      all_goals have hww:wrap64 (j+1)=j+1:=by unfold wrap64;omega
      all_goals refine ⟨⟨j+1,by omega,by omega,by rw [hww],HGO.out,?_,HB3.out⟩,?_⟩
      all_goals first
       | (rw [hww];show l0.length - (j+1).toNat < l0.length - j.toNat;omega)
       | (rw [HSN.out,show (j+1).toNat=j.toNat+1 by omega];exact HM3.out)
     ·have hgo:=HGO.out
      rw [if_neg hq] at hgo
      obtain rfl:=sj_ hgo
      clear HGO hgo
      have b1:(c x.f0+1 != x.f1)=true:=bne_iff_ne.2 hq
      clear hq
      go_region_with (first
       | (go_at_call 78;refine (impl_EntryOk.calls k _ _ _ _ _ _ _ true _ HT.out HGd.out).mono ?_;rintro e w2 ⟨rfl,hb⟩;have HB2:=a_ (bS_ HBd.out hb);have HM2:=a_ (HMd.out.below hb);have HN2:=a_ (blk_below HNd.out hb);clear hb;have hd0:=(bC_ HN2.out 0).trans rfl;have hd1:=(bC_ HN2.out 1).trans rfl)
       | (go_at_call 87;refine (add_any _ _ _ _ _ HX.out HC.out HJN.out.1 HM2.out).mono ?_;rintro e w3 ⟨rfl,hM3,hg3⟩;have HN3:=a_ ((hg3.block g (blk_lt HN2.out) (by intro e;cases e;have:=HW.out;omega)).trans HN2.out);have HB3:=a_ (HB2.out.grown hg3 HB2.out.size (fun j hj=>by cases hj;exact Nat.le_refl _));clear hM3 hg3;have hf0:=(bC_ HN3.out 0).trans rfl;have hf1:=(bC_ HN3.out 1).trans rfl))
      all_goals go_wp2
      all_goals go_ret
      all_goals exact ⟨rfl,HB3.out⟩
   ·have hd1:decide (j < (l0.length:Int))=false:=df_ hlt
    have hgo:=HGO.out
    rw [List.drop_eq_nil_of_le (by omega)] at hgo
    unfold impl_LogOk.go at hgo
    obtain rfl:=sj_ hgo
    clear hgo HGO hlt
    go_wp2
    go_ret
    exact ⟨rfl,HB.out⟩
end Go.Proofs.YtdpklbomhdpimaaDoor.P
namespace Go.Proofs.YtdpklbomhdpimaaDoor.P
open Go.RowKit Go.Proofs.YtdpklbomhdpimaaDoorW.PrintWords Go.Proofs.YtdpklbomhdpimaaDoorW.PrintLast
def impl_ServerOk.f (k:Nat) (l0_0:List (S44)) (a0_1:Int) (a0_2:Bool):Option (Bool):=(impl_LogOk.f k l0_0).bind fun t410=>(if t410=true then (if a0_1≥0 then (some (decide (a0_1≤(l0_0.length:Int)))) else (some false)) else (some false))
theorem impl_ServerOk.mono:∀ a0 a1 a2 k,LeO (impl_ServerOk.f k a0 a1 a2) (impl_ServerOk.f (k+1) a0 a1 a2):=by
 intro a0 a1 a2 k
 unfold impl_ServerOk.f
 repeat' first
   | (with_reducible exact impl_LogOk.mono _ _)
   | (with_reducible exact LeO.refl _)
   | (with_reducible exact LeO.none _)
   | (with_reducible refine LeO.ite ?_ ?_)
   | (with_reducible refine LeO.bind ?_ (fun _=>?_))
   | exact impl_LogOk.mono _ _
   | exact LeO.none _
   | refine LeO.ite ?_ ?_
   | refine LeO.bind ?_ (fun _=>?_)
theorem impl_ServerOk.calls (k:Nat) (A0_0:Option Addr) (c0_0:Nat) (l0_0:List (S44)) (a0_1:Int) (a0_2:Bool) (r:Bool) (w:World) (hr0_0:Kd.C k44 w A0_0 l0_0.length l0_0) (hc0_0:l0_0.length≤c0_0) (h:impl_ServerOk.f k l0_0 a0_1 a0_2=some r) (hG:Glob w) :
  Calls Tryd.prog 16 #[.agg #[.slice A0_0 l0_0.length c0_0,.int .i64 a0_1,.bool a0_2]] w fun e w'=>e=.returned (.bool r)∧Below w.heap.size w w':=by
 have hu25:=Tryd.underlying25
 have HR0_0:=a_ hr0_0
 have HC0_0:=a_ hc0_0
 clear hr0_0 hc0_0
 have HB:=a_ (Below.refl w.heap.size w)
 have HG:=a_ hG
 clear hG
 unfold impl_ServerOk.f at h
 have H:=h
 clear h
 replace H:=bs_ H
 obtain ⟨t410,A20,H⟩:=H
 try dsimp only at H
 have A2:=a_ A20
 clear A20
 by_cases c3:t410=true
 ·subst c3
  have H1:(if a0_1≥0 then (some (decide (a0_1≤(l0_0.length:Int)))) else (some false))=some r:=by rw [if_pos rfl] at H;exact H
  clear H
  have H:=H1
  clear H1
  by_cases c4:a0_1≥0
  ·rw [if_pos c4] at H
   have c4b0:decide (0≤a0_1)=true:=dt_ c4
   clear c4
   obtain rfl:=sj_ H
   go_enter Tryd.func16,Tryd.ntmps16
   go_wp2_with (first|((with_reducible refine gD_ (N:=1) rfl ?_);refine bx_ 1 (#[.slice A0_0 l0_0.length c0_0,.int .i64 a0_1,.bool a0_2]) 25 ?_;intro gb409 hg w5 hbox hb;have n0_:=a_ (bS_ (bel_) hb);have n1_:=a_ (hbox);have n2_:=a_ ((by rw [hg];exact (below_size (bel_)):w.heap.size≤gb409));have n3_:=a_ ((by rw [hg];exact (below_size (bel_)):w.heap.size≤gb409));clear HB;have HB:=n0_;have BK409:=n1_;have GW409:=n2_;have GE409:=n3_;clear n0_ n1_ n2_ n3_;clear hb hbox hg;have Z6_0:=cz_ BK409.out 0 (.slice A0_0 l0_0.length c0_0);have Z6_1:=cz_ BK409.out 1 (.int .i64 a0_1);have Z6_2:=cz_ BK409.out 2 (.bool a0_2);have Y6_0:=bF_ BK409.out 0;have Y6_1:=bF_ BK409.out 1;have Y6_2:=bF_ BK409.out 2)|((with_reducible refine gC_ (f:=42) rfl ?_);refine gl_ 5 Tryd.func42 #[.slice A0_0 l0_0.length c0_0] ?_;(with_reducible refine (impl_LogOk.calls k _ _ l0_0 true _ ?side1 ?side2 A2.out ?side3).mono ?_);(case side1=>exact cp_ HR0_0.out);(case side2=>exact HC0_0.out);(case side3=>exact Glob.below HG.out (bel_));rintro e w7 ⟨rfl,hb⟩;refine ⟨_,rfl,?_⟩;replace HB:=a_ (bS_ (bel_) hb);replace BK409:=a_ (bb_ BK409.out hb);(try clear hb);have Z8_0:=cz_ BK409.out 0 (.slice A0_0 l0_0.length c0_0);have Z8_1:=cz_ BK409.out 1 (.int .i64 a0_1);have Z8_2:=cz_ BK409.out 2 (.bool a0_2);have Y8_0:=bF_ BK409.out 0;have Y8_1:=bF_ BK409.out 1;have Y8_2:=bF_ BK409.out 2))
   go_ret
   exact ⟨fi_,bel_⟩
  ·rw [if_neg c4] at H
   have c4b0:decide (0≤a0_1)=false:=df_ c4
   clear c4
   obtain rfl:=sj_ H
   go_enter Tryd.func16,Tryd.ntmps16
   go_wp2_with (first|((with_reducible refine gD_ (N:=1) rfl ?_);refine bx_ 1 (#[.slice A0_0 l0_0.length c0_0,.int .i64 a0_1,.bool a0_2]) 25 ?_;intro gb409 hg w9 hbox hb;have n0_:=a_ (bS_ (bel_) hb);have n1_:=a_ (hbox);have n2_:=a_ ((by rw [hg];exact (below_size (bel_)):w.heap.size≤gb409));have n3_:=a_ ((by rw [hg];exact (below_size (bel_)):w.heap.size≤gb409));clear HB;have HB:=n0_;have BK409:=n1_;have GW409:=n2_;have GE409:=n3_;clear n0_ n1_ n2_ n3_;clear hb hbox hg;have Z10_0:=cz_ BK409.out 0 (.slice A0_0 l0_0.length c0_0);have Z10_1:=cz_ BK409.out 1 (.int .i64 a0_1);have Z10_2:=cz_ BK409.out 2 (.bool a0_2);have Y10_0:=bF_ BK409.out 0;have Y10_1:=bF_ BK409.out 1;have Y10_2:=bF_ BK409.out 2)|((with_reducible refine gC_ (f:=42) rfl ?_);refine gl_ 5 Tryd.func42 #[.slice A0_0 l0_0.length c0_0] ?_;(with_reducible refine (impl_LogOk.calls k _ _ l0_0 true _ ?side1 ?side2 A2.out ?side3).mono ?_);(case side1=>exact cp_ HR0_0.out);(case side2=>exact HC0_0.out);(case side3=>exact Glob.below HG.out (bel_));rintro e w11 ⟨rfl,hb⟩;refine ⟨_,rfl,?_⟩;replace HB:=a_ (bS_ (bel_) hb);replace BK409:=a_ (bb_ BK409.out hb);(try clear hb);have Z12_0:=cz_ BK409.out 0 (.slice A0_0 l0_0.length c0_0);have Z12_1:=cz_ BK409.out 1 (.int .i64 a0_1);have Z12_2:=cz_ BK409.out 2 (.bool a0_2);have Y12_0:=bF_ BK409.out 0;have Y12_1:=bF_ BK409.out 1;have Y12_2:=bF_ BK409.out 2))
   go_ret
   exact ⟨fi_,bel_⟩
 ·replace c3:=Bool.eq_false_iff.mpr c3
  subst c3
  have H1:(some false)=some r:=by rw [if_neg (show ¬ (false=true) by decide)] at H;exact H
  clear H
  have H:=H1
  clear H1
  obtain rfl:=sj_ H
  go_enter Tryd.func16,Tryd.ntmps16
  go_wp2_with (first|((with_reducible refine gD_ (N:=1) rfl ?_);refine bx_ 1 (#[.slice A0_0 l0_0.length c0_0,.int .i64 a0_1,.bool a0_2]) 25 ?_;intro gb409 hg w13 hbox hb;have n0_:=a_ (bS_ (bel_) hb);have n1_:=a_ (hbox);have n2_:=a_ ((by rw [hg];exact (below_size (bel_)):w.heap.size≤gb409));have n3_:=a_ ((by rw [hg];exact (below_size (bel_)):w.heap.size≤gb409));clear HB;have HB:=n0_;have BK409:=n1_;have GW409:=n2_;have GE409:=n3_;clear n0_ n1_ n2_ n3_;clear hb hbox hg;have Z14_0:=cz_ BK409.out 0 (.slice A0_0 l0_0.length c0_0);have Z14_1:=cz_ BK409.out 1 (.int .i64 a0_1);have Z14_2:=cz_ BK409.out 2 (.bool a0_2);have Y14_0:=bF_ BK409.out 0;have Y14_1:=bF_ BK409.out 1;have Y14_2:=bF_ BK409.out 2)|((with_reducible refine gC_ (f:=42) rfl ?_);refine gl_ 5 Tryd.func42 #[.slice A0_0 l0_0.length c0_0] ?_;(with_reducible refine (impl_LogOk.calls k _ _ l0_0 false _ ?side1 ?side2 A2.out ?side3).mono ?_);(case side1=>exact cp_ HR0_0.out);(case side2=>exact HC0_0.out);(case side3=>exact Glob.below HG.out (bel_));rintro e w15 ⟨rfl,hb⟩;refine ⟨_,rfl,?_⟩;replace HB:=a_ (bS_ (bel_) hb);replace BK409:=a_ (bb_ BK409.out hb);(try clear hb)))
  go_ret
  exact ⟨fi_,bel_⟩

def spec_l1Root.f (a0:Int):Option (Bool):=(spec_l6In.f a0 1 3).bind fun t411=>(some t411)
theorem spec_l1Root.calls (a0:Int) (r:Bool) (w:World) (h:spec_l1Root.f a0=some r) :
  Calls Tryd.prog 141 #[.int .i64 a0] w fun e w'=>e=.returned (.bool r)∧Drawn0 w w':=by
 unfold spec_l1Root.f at h
 have H:=h
 clear h
 replace H:=bs_ H
 obtain ⟨t411,A20,H⟩:=H
 try dsimp only at H
 have A2:=a_ A20
 clear A20
 obtain rfl:=sj_ H
 go_enter Tryd.func141,Tryd.ntmps141
 go_wp2_with (first|((with_reducible refine gC_ (f:=75) rfl ?_);refine gl_ 4 Tryd.func75 #[.int .i64 a0,.int .i64 1,.int .i64 3] ?_;(with_reducible refine (spec_l6In.calls a0 1 3 t411 _ A2.out).mono ?_);rintro e w' ⟨rfl,⟨nd,rfl⟩⟩;refine ⟨_,rfl,?_⟩))
 go_ret
 exact ⟨si_,by repeat (first|exact Drawn0.refl _|apply Drawn0.step)⟩

def spec_l3Id.f (a0:Int):Option (Bool):=(spec_l1Root.f a0).bind fun t412=>(if t412=true then (some true) else ((spec_l1Made.f a0).bind fun t413=>(some t413)))
theorem spec_l3Id.calls (a0:Int) (r:Bool) (w:World) (h:spec_l3Id.f a0=some r) :
  Calls Tryd.prog 122 #[.int .i64 a0] w fun e w'=>e=.returned (.bool r)∧Drawn0 w w':=by
 unfold spec_l3Id.f at h
 have H:=h
 clear h
 replace H:=bs_ H
 obtain ⟨t412,A20,H⟩:=H
 try dsimp only at H
 have A2:=a_ A20
 clear A20
 by_cases c3:t412=true
 ·subst c3
  have H1:(some true)=some r:=by rw [if_pos rfl] at H;exact H
  clear H
  have H:=H1
  clear H1
  obtain rfl:=sj_ H
  go_enter Tryd.func122,Tryd.ntmps122
  go_wp2_with (first|((with_reducible refine gC_ (f:=141) rfl ?_);refine gl_ 4 Tryd.func141 #[.int .i64 a0] ?_;(with_reducible refine (spec_l1Root.calls a0 true _ A2.out).mono ?_);rintro e w' ⟨rfl,⟨nd,rfl⟩⟩;refine ⟨_,rfl,?_⟩))
  go_ret
  exact ⟨si_,by repeat (first|exact Drawn0.refl _|apply Drawn0.step)⟩
 ·replace c3:=Bool.eq_false_iff.mpr c3
  subst c3
  have H1:((spec_l1Made.f a0).bind fun t413=>(some t413))=some r:=by rw [if_neg (show ¬ (false=true) by decide)] at H;exact H
  clear H
  have H:=H1
  clear H1
  replace H:=bs_ H
  obtain ⟨t413,A40,H⟩:=H
  try dsimp only at H
  have A4:=a_ A40
  clear A40
  obtain rfl:=sj_ H
  go_enter Tryd.func122,Tryd.ntmps122
  go_wp2_with (first|((with_reducible refine gC_ (f:=141) rfl ?_);refine gl_ 4 Tryd.func141 #[.int .i64 a0] ?_;(with_reducible refine (spec_l1Root.calls a0 false _ A2.out).mono ?_);rintro e w' ⟨rfl,⟨nd,rfl⟩⟩;refine ⟨_,rfl,?_⟩)|(go_at_call 120;(with_reducible refine (spec_l1Made.calls a0 t413 _ A4.out).mono ?_);rintro e w' ⟨rfl,⟨nd,rfl⟩⟩))
  go_ret
  exact ⟨si_,by repeat (first|exact Drawn0.refl _|apply Drawn0.step)⟩

def spec_OpOk.j0:Nat→Bool→Int→Int→Int→Int→ByteArray→Option (Bool)
 | 0,_,_,_,_,_,_=>none
 | k+1,x12,x415000,x415001,x415002,x415003,x415004=>if x12=true then (some false) else (if x415000=1 then ((spec_l3Id.f x415002).bind fun t417=>(if t417=true then (if x415003=0 then (some true) else ((spec_l1Made.f x415003).bind fun t418=>(some t418))) else (some false))) else (if x415000=2 then (if x415002=0 then (some (x415003==0)) else (some false)) else (if x415000=3 then ((spec_l3Id.f x415002).bind fun t419=>(if t419=true then (if x415003=0 then (some (x415004.toList==([]:List UInt8))) else ((spec_l1Made.f x415003).bind fun t420=>(if t420=true then (some (x415004.toList==([]:List UInt8))) else (some false)))) else (some false))) else (some false))))
def spec_OpOk.f (k:Nat) (a0_0:Int) (a0_1:Int) (a0_2:Int) (a0_3:Int) (a0_4:ByteArray):Option (Bool):=(spec_l1Made.f a0_1).bind fun t415=>(if t415=true then ((spec_l1Text.f k a0_4).bind fun t416=>(spec_OpOk.j0 k (!t416) a0_0 a0_1 a0_2 a0_3 a0_4)) else (spec_OpOk.j0 k true a0_0 a0_1 a0_2 a0_3 a0_4))
theorem spec_OpOk.mono_l:∀ k,(∀ y0 y1 y2 y3 y4 y5,LeO (spec_OpOk.j0 k y0 y1 y2 y3 y4 y5) (spec_OpOk.j0 (k+1) y0 y1 y2 y3 y4 y5))
 | 0=>fun _ _ _ _ _ _ r h=>by simp [spec_OpOk.j0] at h
 | k+1=>by
  have ih0:=spec_OpOk.mono_l k
  ·intro y0 y1 y2 y3 y4 y5
   unfold spec_OpOk.j0
   repeat' first
   | (with_reducible exact ih0 _ _ _ _ _ _)
   | (with_reducible exact spec_l1Text.mono _ _)
   | (with_reducible exact LeO.refl _)
   | (with_reducible exact LeO.none _)
   | (with_reducible refine LeO.ite ?_ ?_)
   | (with_reducible refine LeO.bind ?_ (fun _=>?_))
   | exact ih0 _ _ _ _ _ _
   | exact spec_l1Text.mono _ _
   | exact LeO.none _
   | refine LeO.ite ?_ ?_
   | refine LeO.bind ?_ (fun _=>?_)
theorem spec_OpOk.mono:∀ a0 a1 a2 a3 a4 k,LeO (spec_OpOk.f k a0 a1 a2 a3 a4) (spec_OpOk.f (k+1) a0 a1 a2 a3 a4):=by
 intro a0 a1 a2 a3 a4 k
 have ih0:=spec_OpOk.mono_l k
 unfold spec_OpOk.f
 repeat' first
   | (with_reducible exact ih0 _ _ _ _ _ _)
   | (with_reducible exact spec_l1Text.mono _ _)
   | (with_reducible exact LeO.refl _)
   | (with_reducible exact LeO.none _)
   | (with_reducible refine LeO.ite ?_ ?_)
   | (with_reducible refine LeO.bind ?_ (fun _=>?_))
   | exact ih0 _ _ _ _ _ _
   | exact spec_l1Text.mono _ _
   | exact LeO.none _
   | refine LeO.ite ?_ ?_
   | refine LeO.bind ?_ (fun _=>?_)
theorem spec_OpOk.calls (k:Nat) (a0_0:Int) (a0_1:Int) (a0_2:Int) (a0_3:Int) (a0_4:ByteArray) (r:Bool) (w:World) (h:spec_OpOk.f k a0_0 a0_1 a0_2 a0_3 a0_4=some r) :
  Calls Tryd.prog 84 #[.agg #[.int .i64 a0_0,.int .i64 a0_1,.int .i64 a0_2,.int .i64 a0_3,.string a0_4]] w fun e w'=>e=.returned (.bool r)∧Below w.heap.size w w':=by
 have hu42:=Tryd.underlying42
 have HB:=a_ (Below.refl w.heap.size w)
 unfold spec_OpOk.f at h
 have H:=h
 clear h
 have HC2:=a_ H
 clear H
 go_enter Tryd.func84,Tryd.ntmps84
 go_upto_region 1 with (first|((with_reducible refine gD_ (N:=1) rfl ?_);refine bx_ 1 (#[.int .i64 a0_0,.int .i64 a0_1,.int .i64 a0_2,.int .i64 a0_3,.string a0_4]) 42 ?_;intro gb414 hg w3 hbox hb;have n0_:=a_ (bS_ (bel_) hb);have n1_:=a_ (hbox);have n2_:=a_ ((by rw [hg];exact (below_size (bel_)):w.heap.size≤gb414));have n3_:=a_ ((by rw [hg];exact (below_size (bel_)):w.heap.size≤gb414));clear HB;have HB:=n0_;have BK414:=n1_;have GW414:=n2_;have GE414:=n3_;clear n0_ n1_ n2_ n3_;clear hb hbox hg))
 (try simp only [Act.put,List.setIfInBounds_toArray,List.set_cons_zero,List.set_cons_succ])
 go_cut [12] (fun v12 wc=>∃ (kq:Nat) (x12_1:Bool),v12=.bool x12_1∧Aside0 (spec_OpOk.j0 kq x12_1 a0_0 a0_1 a0_2 a0_3 a0_4=some r)∧Aside0 (kq≤k)∧Aside0 (wc.heap[gb414]?=some (.cells #[.int .i64 a0_0,.int .i64 a0_1,.int .i64 a0_2,.int .i64 a0_3,.string a0_4] 42 (0,0)))∧Aside0 (Below w.heap.size w wc))
 case first =>
  have H:=HC2.out
  clear HC2
  replace H:=bs_ H
  obtain ⟨t415,A40,H⟩:=H
  try dsimp only at H
  have A4:=a_ A40
  clear A40
  by_cases c5:t415=true
  ·subst c5
   have H1:((spec_l1Text.f k a0_4).bind fun t416=>(spec_OpOk.j0 k (!t416) a0_0 a0_1 a0_2 a0_3 a0_4))=some r:=by rw [if_pos rfl] at H;exact H
   clear H
   have H:=H1
   clear H1
   replace H:=bs_ H
   obtain ⟨t416,A60,H⟩:=H
   try dsimp only at H
   have A6:=a_ A60
   clear A60
   have H':=a_ H
   clear H
   have Z7_0:=cz_ BK414.out 0 (.int .i64 a0_0)
   have Z7_1:=cz_ BK414.out 1 (.int .i64 a0_1)
   have Z7_2:=cz_ BK414.out 2 (.int .i64 a0_2)
   have Z7_3:=cz_ BK414.out 3 (.int .i64 a0_3)
   have Z7_4:=cz_ BK414.out 4 (.string a0_4)
   have Y7_0:=bF_ BK414.out 0
   have Y7_1:=bF_ BK414.out 1
   have Y7_2:=bF_ BK414.out 2
   have Y7_3:=bF_ BK414.out 3
   have Y7_4:=bF_ BK414.out 4
   go_wp2_with (first|((with_reducible refine gC_ (f:=120) rfl ?_);refine gl_ 5 Tryd.func120 #[.int .i64 a0_1] ?_;(with_reducible refine (spec_l1Made.calls a0_1 true _ A4.out).mono ?_);rintro e w' ⟨rfl,⟨nd,rfl⟩⟩;refine ⟨_,rfl,?_⟩)|(go_at_call 121;(with_reducible refine (spec_l1Text.calls k a0_4 t416 _ A6.out).mono ?_);rintro e w' ⟨rfl,⟨nd,rfl⟩⟩))
   go_meet
   case rel=>exact ⟨_,(!t416),(si_),H',⟨by first|omega|exact Nat.le_refl _⟩,⟨by (with_reducible repeat (first|refine bN_ ?_ _|refine bD_ ?_|refine bA_ ?_ _));exact BK414.out⟩,⟨bel_⟩⟩
  ·replace c5:=Bool.eq_false_iff.mpr c5
   subst c5
   have H1:(spec_OpOk.j0 k true a0_0 a0_1 a0_2 a0_3 a0_4)=some r:=by rw [if_neg (show ¬ (false=true) by decide)] at H;exact H
   clear H
   have H:=H1
   clear H1
   have H':=a_ H
   clear H
   have Z8_0:=cz_ BK414.out 0 (.int .i64 a0_0)
   have Z8_1:=cz_ BK414.out 1 (.int .i64 a0_1)
   have Z8_2:=cz_ BK414.out 2 (.int .i64 a0_2)
   have Z8_3:=cz_ BK414.out 3 (.int .i64 a0_3)
   have Z8_4:=cz_ BK414.out 4 (.string a0_4)
   have Y8_0:=bF_ BK414.out 0
   have Y8_1:=bF_ BK414.out 1
   have Y8_2:=bF_ BK414.out 2
   have Y8_3:=bF_ BK414.out 3
   have Y8_4:=bF_ BK414.out 4
   go_wp2_with (first|((with_reducible refine gC_ (f:=120) rfl ?_);refine gl_ 5 Tryd.func120 #[.int .i64 a0_1] ?_;(with_reducible refine (spec_l1Made.calls a0_1 false _ A4.out).mono ?_);rintro e w' ⟨rfl,⟨nd,rfl⟩⟩;refine ⟨_,rfl,?_⟩))
   go_meet
   case rel=>exact ⟨_,(true),(si_),H',⟨by first|omega|exact Nat.le_refl _⟩,⟨by (with_reducible repeat (first|refine bN_ ?_ _|refine bD_ ?_|refine bA_ ?_ _));exact BK414.out⟩,⟨bel_⟩⟩
 case rest =>
  clear HC2
  try clear c1
  try clear p2
  try clear c5
  try clear c8
  try clear Z7_0
  try clear Z7_1
  try clear Z7_2
  try clear Z7_3
  try clear Z7_4
  try clear Z8_0
  try clear Z8_1
  try clear Z8_2
  try clear Z8_3
  try clear Z8_4
  try clear Y7_0
  try clear Y7_1
  try clear Y7_2
  try clear Y7_3
  try clear Y7_4
  try clear Y8_0
  try clear Y8_1
  try clear Y8_2
  try clear Y8_3
  try clear Y8_4
  obtain ⟨kq,x12_1,rfl,HA,HJ1,BK414,HB⟩:=hcut
  cases kq with
  | zero=>exact absurd HA.out (by simp [spec_OpOk.j0])
  | succ kj1 =>
   have H:=HA.out
   clear HA
   simp only [spec_OpOk.j0] at H
   by_cases c9:x12_1=true
   ·subst c9
    have H1:(some false)=some r:=by rw [if_pos rfl] at H;exact H
    clear H
    have H:=H1
    clear H1
    obtain rfl:=sj_ H
    go_wp2
    go_ret
    exact ⟨fi_,bel_⟩
   ·replace c9:=Bool.eq_false_iff.mpr c9
    subst c9
    have H1:(if a0_0=1 then ((spec_l3Id.f a0_2).bind fun t417=>(if t417=true then (if a0_3=0 then (some true) else ((spec_l1Made.f a0_3).bind fun t418=>(some t418))) else (some false))) else (if a0_0=2 then (if a0_2=0 then (some (a0_3==0)) else (some false)) else (if a0_0=3 then ((spec_l3Id.f a0_2).bind fun t419=>(if t419=true then (if a0_3=0 then (some (a0_4.toList==([]:List UInt8))) else ((spec_l1Made.f a0_3).bind fun t420=>(if t420=true then (some (a0_4.toList==([]:List UInt8))) else (some false)))) else (some false))) else (some false))))=some r:=by rw [if_neg (show ¬ (false=true) by decide)] at H;exact H
    clear H
    have H:=H1
    clear H1
    by_cases c10:a0_0=1
    ·rw [if_pos c10] at H
     have c10b0:(a0_0==1)=true:=beq_iff_eq.mpr c10
     have c10b1:(a0_0 != 1)=false:=be_ c10
     clear c10
     replace H:=bs_ H
     obtain ⟨t417,A110,H⟩:=H
     try dsimp only at H
     have A11:=a_ A110
     clear A110
     by_cases c12:t417=true
     ·subst c12
      have H1:(if a0_3=0 then (some true) else ((spec_l1Made.f a0_3).bind fun t418=>(some t418)))=some r:=by rw [if_pos rfl] at H;exact H
      clear H
      have H:=H1
      clear H1
      by_cases c13:a0_3=0
      ·rw [if_pos c13] at H
       have c13b0:(a0_3==0)=true:=beq_iff_eq.mpr c13
       have c13b1:(a0_3 != 0)=false:=be_ c13
       clear c13
       obtain rfl:=sj_ H
       have Z14_0:wc.cell? ⟨gb414,0,none⟩=some (.int .i64 a0_0):=(bC_ BK414.out 0).trans rfl
       have Z14_1:wc.cell? ⟨gb414,1,none⟩=some (.int .i64 a0_1):=(bC_ BK414.out 1).trans rfl
       have Z14_2:wc.cell? ⟨gb414,2,none⟩=some (.int .i64 a0_2):=(bC_ BK414.out 2).trans rfl
       have Z14_3:wc.cell? ⟨gb414,3,none⟩=some (.int .i64 a0_3):=(bC_ BK414.out 3).trans rfl
       have Z14_4:wc.cell? ⟨gb414,4,none⟩=some (.string a0_4):=(bC_ BK414.out 4).trans rfl
       have Y14_0:=bF_ BK414.out 0
       have Y14_1:=bF_ BK414.out 1
       have Y14_2:=bF_ BK414.out 2
       have Y14_3:=bF_ BK414.out 3
       have Y14_4:=bF_ BK414.out 4
       go_wp2_with (first|((with_reducible refine gC_ (f:=122) rfl ?_);refine gl_ 19 Tryd.func122 #[.int .i64 a0_2] ?_;(with_reducible refine (spec_l3Id.calls a0_2 true _ A11.out).mono ?_);rintro e w' ⟨rfl,⟨nd,rfl⟩⟩;refine ⟨_,rfl,?_⟩))
       go_ret
       exact ⟨fi_,bel_⟩
      ·rw [if_neg c13] at H
       have c13b0:(a0_3==0)=false:=bn_ c13
       have c13b1:(a0_3 != 0)=true:=bne_iff_ne.mpr c13
       replace H:=bs_ H
       obtain ⟨t418,A150,H⟩:=H
       try dsimp only at H
       have A15:=a_ A150
       clear A150
       obtain rfl:=sj_ H
       have Z16_0:wc.cell? ⟨gb414,0,none⟩=some (.int .i64 a0_0):=(bC_ BK414.out 0).trans rfl
       have Z16_1:wc.cell? ⟨gb414,1,none⟩=some (.int .i64 a0_1):=(bC_ BK414.out 1).trans rfl
       have Z16_2:wc.cell? ⟨gb414,2,none⟩=some (.int .i64 a0_2):=(bC_ BK414.out 2).trans rfl
       have Z16_3:wc.cell? ⟨gb414,3,none⟩=some (.int .i64 a0_3):=(bC_ BK414.out 3).trans rfl
       have Z16_4:wc.cell? ⟨gb414,4,none⟩=some (.string a0_4):=(bC_ BK414.out 4).trans rfl
       have Y16_0:=bF_ BK414.out 0
       have Y16_1:=bF_ BK414.out 1
       have Y16_2:=bF_ BK414.out 2
       have Y16_3:=bF_ BK414.out 3
       have Y16_4:=bF_ BK414.out 4
       go_wp2_with (first|((with_reducible refine gC_ (f:=122) rfl ?_);refine gl_ 19 Tryd.func122 #[.int .i64 a0_2] ?_;(with_reducible refine (spec_l3Id.calls a0_2 true _ A11.out).mono ?_);rintro e w' ⟨rfl,⟨nd,rfl⟩⟩;refine ⟨_,rfl,?_⟩)|(go_at_call 120;(with_reducible refine (spec_l1Made.calls a0_3 t418 _ A15.out).mono ?_);rintro e w' ⟨rfl,⟨nd,rfl⟩⟩))
       go_ret
       exact ⟨fi_,bel_⟩
     ·replace c12:=Bool.eq_false_iff.mpr c12
      subst c12
      have H1:(some false)=some r:=by rw [if_neg (show ¬ (false=true) by decide)] at H;exact H
      clear H
      have H:=H1
      clear H1
      obtain rfl:=sj_ H
      have Z17_0:wc.cell? ⟨gb414,0,none⟩=some (.int .i64 a0_0):=(bC_ BK414.out 0).trans rfl
      have Z17_1:wc.cell? ⟨gb414,1,none⟩=some (.int .i64 a0_1):=(bC_ BK414.out 1).trans rfl
      have Z17_2:wc.cell? ⟨gb414,2,none⟩=some (.int .i64 a0_2):=(bC_ BK414.out 2).trans rfl
      have Z17_3:wc.cell? ⟨gb414,3,none⟩=some (.int .i64 a0_3):=(bC_ BK414.out 3).trans rfl
      have Z17_4:wc.cell? ⟨gb414,4,none⟩=some (.string a0_4):=(bC_ BK414.out 4).trans rfl
      have Y17_0:=bF_ BK414.out 0
      have Y17_1:=bF_ BK414.out 1
      have Y17_2:=bF_ BK414.out 2
      have Y17_3:=bF_ BK414.out 3
      have Y17_4:=bF_ BK414.out 4
      go_wp2_with (first|((with_reducible refine gC_ (f:=122) rfl ?_);refine gl_ 19 Tryd.func122 #[.int .i64 a0_2] ?_;(with_reducible refine (spec_l3Id.calls a0_2 false _ A11.out).mono ?_);rintro e w' ⟨rfl,⟨nd,rfl⟩⟩;refine ⟨_,rfl,?_⟩))
      go_ret
      exact ⟨fi_,bel_⟩
    ·rw [if_neg c10] at H
     have c10b0:(a0_0==1)=false:=bn_ c10
     have c10b1:(a0_0 != 1)=true:=bne_iff_ne.mpr c10
     by_cases c18:a0_0=2
     ·rw [if_pos c18] at H
      have c18b0:(a0_0==2)=true:=beq_iff_eq.mpr c18
      have c18b1:(a0_0 != 2)=false:=be_ c18
      clear c18
      by_cases c19:a0_2=0
      ·rw [if_pos c19] at H
       have c19b0:(a0_2==0)=true:=beq_iff_eq.mpr c19
       have c19b1:(a0_2 != 0)=false:=be_ c19
       clear c19
       obtain rfl:=sj_ H
       have Z20_0:wc.cell? ⟨gb414,0,none⟩=some (.int .i64 a0_0):=(bC_ BK414.out 0).trans rfl
       have Z20_1:wc.cell? ⟨gb414,1,none⟩=some (.int .i64 a0_1):=(bC_ BK414.out 1).trans rfl
       have Z20_2:wc.cell? ⟨gb414,2,none⟩=some (.int .i64 a0_2):=(bC_ BK414.out 2).trans rfl
       have Z20_3:wc.cell? ⟨gb414,3,none⟩=some (.int .i64 a0_3):=(bC_ BK414.out 3).trans rfl
       have Z20_4:wc.cell? ⟨gb414,4,none⟩=some (.string a0_4):=(bC_ BK414.out 4).trans rfl
       have Y20_0:=bF_ BK414.out 0
       have Y20_1:=bF_ BK414.out 1
       have Y20_2:=bF_ BK414.out 2
       have Y20_3:=bF_ BK414.out 3
       have Y20_4:=bF_ BK414.out 4
       go_wp2
       go_ret
       exact ⟨fi_,bel_⟩
      ·rw [if_neg c19] at H
       have c19b0:(a0_2==0)=false:=bn_ c19
       have c19b1:(a0_2 != 0)=true:=bne_iff_ne.mpr c19
       obtain rfl:=sj_ H
       have Z21_0:wc.cell? ⟨gb414,0,none⟩=some (.int .i64 a0_0):=(bC_ BK414.out 0).trans rfl
       have Z21_1:wc.cell? ⟨gb414,1,none⟩=some (.int .i64 a0_1):=(bC_ BK414.out 1).trans rfl
       have Z21_2:wc.cell? ⟨gb414,2,none⟩=some (.int .i64 a0_2):=(bC_ BK414.out 2).trans rfl
       have Z21_3:wc.cell? ⟨gb414,3,none⟩=some (.int .i64 a0_3):=(bC_ BK414.out 3).trans rfl
       have Z21_4:wc.cell? ⟨gb414,4,none⟩=some (.string a0_4):=(bC_ BK414.out 4).trans rfl
       have Y21_0:=bF_ BK414.out 0
       have Y21_1:=bF_ BK414.out 1
       have Y21_2:=bF_ BK414.out 2
       have Y21_3:=bF_ BK414.out 3
       have Y21_4:=bF_ BK414.out 4
       go_wp2
       go_ret
       exact ⟨fi_,bel_⟩
     ·rw [if_neg c18] at H
      have c18b0:(a0_0==2)=false:=bn_ c18
      have c18b1:(a0_0 != 2)=true:=bne_iff_ne.mpr c18
      by_cases c22:a0_0=3
      ·rw [if_pos c22] at H
       have c22b0:(a0_0==3)=true:=beq_iff_eq.mpr c22
       have c22b1:(a0_0 != 3)=false:=be_ c22
       clear c22
       replace H:=bs_ H
       obtain ⟨t419,A230,H⟩:=H
       try dsimp only at H
       have A23:=a_ A230
       clear A230
       by_cases c24:t419=true
       ·subst c24
        have H1:(if a0_3=0 then (some (a0_4.toList==([]:List UInt8))) else ((spec_l1Made.f a0_3).bind fun t420=>(if t420=true then (some (a0_4.toList==([]:List UInt8))) else (some false))))=some r:=by rw [if_pos rfl] at H;exact H
        clear H
        have H:=H1
        clear H1
        by_cases c25:a0_3=0
        ·rw [if_pos c25] at H
         have c25b0:(a0_3==0)=true:=beq_iff_eq.mpr c25
         have c25b1:(a0_3 != 0)=false:=be_ c25
         clear c25
         obtain rfl:=sj_ H
         have Z26_0:wc.cell? ⟨gb414,0,none⟩=some (.int .i64 a0_0):=(bC_ BK414.out 0).trans rfl
         have Z26_1:wc.cell? ⟨gb414,1,none⟩=some (.int .i64 a0_1):=(bC_ BK414.out 1).trans rfl
         have Z26_2:wc.cell? ⟨gb414,2,none⟩=some (.int .i64 a0_2):=(bC_ BK414.out 2).trans rfl
         have Z26_3:wc.cell? ⟨gb414,3,none⟩=some (.int .i64 a0_3):=(bC_ BK414.out 3).trans rfl
         have Z26_4:wc.cell? ⟨gb414,4,none⟩=some (.string a0_4):=(bC_ BK414.out 4).trans rfl
         have Y26_0:=bF_ BK414.out 0
         have Y26_1:=bF_ BK414.out 1
         have Y26_2:=bF_ BK414.out 2
         have Y26_3:=bF_ BK414.out 3
         have Y26_4:=bF_ BK414.out 4
         go_wp2_with (first|((with_reducible refine gC_ (f:=122) rfl ?_);refine gl_ 44 Tryd.func122 #[.int .i64 a0_2] ?_;(with_reducible refine (spec_l3Id.calls a0_2 true _ A23.out).mono ?_);rintro e w' ⟨rfl,⟨nd,rfl⟩⟩;refine ⟨_,rfl,?_⟩))
         go_ret
         exact ⟨fi_,bel_⟩
        ·rw [if_neg c25] at H
         have c25b0:(a0_3==0)=false:=bn_ c25
         have c25b1:(a0_3 != 0)=true:=bne_iff_ne.mpr c25
         replace H:=bs_ H
         obtain ⟨t420,A270,H⟩:=H
         try dsimp only at H
         have A27:=a_ A270
         clear A270
         by_cases c28:t420=true
         ·subst c28
          have H1:(some (a0_4.toList==([]:List UInt8)))=some r:=by rw [if_pos rfl] at H;exact H
          clear H
          have H:=H1
          clear H1
          obtain rfl:=sj_ H
          have Z29_0:wc.cell? ⟨gb414,0,none⟩=some (.int .i64 a0_0):=(bC_ BK414.out 0).trans rfl
          have Z29_1:wc.cell? ⟨gb414,1,none⟩=some (.int .i64 a0_1):=(bC_ BK414.out 1).trans rfl
          have Z29_2:wc.cell? ⟨gb414,2,none⟩=some (.int .i64 a0_2):=(bC_ BK414.out 2).trans rfl
          have Z29_3:wc.cell? ⟨gb414,3,none⟩=some (.int .i64 a0_3):=(bC_ BK414.out 3).trans rfl
          have Z29_4:wc.cell? ⟨gb414,4,none⟩=some (.string a0_4):=(bC_ BK414.out 4).trans rfl
          have Y29_0:=bF_ BK414.out 0
          have Y29_1:=bF_ BK414.out 1
          have Y29_2:=bF_ BK414.out 2
          have Y29_3:=bF_ BK414.out 3
          have Y29_4:=bF_ BK414.out 4
          go_wp2_with (first|((with_reducible refine gC_ (f:=122) rfl ?_);refine gl_ 44 Tryd.func122 #[.int .i64 a0_2] ?_;(with_reducible refine (spec_l3Id.calls a0_2 true _ A23.out).mono ?_);rintro e w' ⟨rfl,⟨nd,rfl⟩⟩;refine ⟨_,rfl,?_⟩)|(go_at_call 120;(with_reducible refine (spec_l1Made.calls a0_3 true _ A27.out).mono ?_);rintro e w' ⟨rfl,⟨nd,rfl⟩⟩))
          go_ret
          exact ⟨fi_,bel_⟩
         ·replace c28:=Bool.eq_false_iff.mpr c28
          subst c28
          have H1:(some false)=some r:=by rw [if_neg (show ¬ (false=true) by decide)] at H;exact H
          clear H
          have H:=H1
          clear H1
          obtain rfl:=sj_ H
          have Z30_0:wc.cell? ⟨gb414,0,none⟩=some (.int .i64 a0_0):=(bC_ BK414.out 0).trans rfl
          have Z30_1:wc.cell? ⟨gb414,1,none⟩=some (.int .i64 a0_1):=(bC_ BK414.out 1).trans rfl
          have Z30_2:wc.cell? ⟨gb414,2,none⟩=some (.int .i64 a0_2):=(bC_ BK414.out 2).trans rfl
          have Z30_3:wc.cell? ⟨gb414,3,none⟩=some (.int .i64 a0_3):=(bC_ BK414.out 3).trans rfl
          have Z30_4:wc.cell? ⟨gb414,4,none⟩=some (.string a0_4):=(bC_ BK414.out 4).trans rfl
          have Y30_0:=bF_ BK414.out 0
          have Y30_1:=bF_ BK414.out 1
          have Y30_2:=bF_ BK414.out 2
          have Y30_3:=bF_ BK414.out 3
          have Y30_4:=bF_ BK414.out 4
          go_wp2_with (first|((with_reducible refine gC_ (f:=122) rfl ?_);refine gl_ 44 Tryd.func122 #[.int .i64 a0_2] ?_;(with_reducible refine (spec_l3Id.calls a0_2 true _ A23.out).mono ?_);rintro e w' ⟨rfl,⟨nd,rfl⟩⟩;refine ⟨_,rfl,?_⟩)|(go_at_call 120;(with_reducible refine (spec_l1Made.calls a0_3 false _ A27.out).mono ?_);rintro e w' ⟨rfl,⟨nd,rfl⟩⟩))
          go_ret
          exact ⟨fi_,bel_⟩
       ·replace c24:=Bool.eq_false_iff.mpr c24
        subst c24
        have H1:(some false)=some r:=by rw [if_neg (show ¬ (false=true) by decide)] at H;exact H
        clear H
        have H:=H1
        clear H1
        obtain rfl:=sj_ H
        have Z31_0:wc.cell? ⟨gb414,0,none⟩=some (.int .i64 a0_0):=(bC_ BK414.out 0).trans rfl
        have Z31_1:wc.cell? ⟨gb414,1,none⟩=some (.int .i64 a0_1):=(bC_ BK414.out 1).trans rfl
        have Z31_2:wc.cell? ⟨gb414,2,none⟩=some (.int .i64 a0_2):=(bC_ BK414.out 2).trans rfl
        have Z31_3:wc.cell? ⟨gb414,3,none⟩=some (.int .i64 a0_3):=(bC_ BK414.out 3).trans rfl
        have Z31_4:wc.cell? ⟨gb414,4,none⟩=some (.string a0_4):=(bC_ BK414.out 4).trans rfl
        have Y31_0:=bF_ BK414.out 0
        have Y31_1:=bF_ BK414.out 1
        have Y31_2:=bF_ BK414.out 2
        have Y31_3:=bF_ BK414.out 3
        have Y31_4:=bF_ BK414.out 4
        go_wp2_with (first|((with_reducible refine gC_ (f:=122) rfl ?_);refine gl_ 44 Tryd.func122 #[.int .i64 a0_2] ?_;(with_reducible refine (spec_l3Id.calls a0_2 false _ A23.out).mono ?_);rintro e w' ⟨rfl,⟨nd,rfl⟩⟩;refine ⟨_,rfl,?_⟩))
        go_ret
        exact ⟨fi_,bel_⟩
      ·rw [if_neg c22] at H
       have c22b0:(a0_0==3)=false:=bn_ c22
       have c22b1:(a0_0 != 3)=true:=bne_iff_ne.mpr c22
       obtain rfl:=sj_ H
       have Z32_0:wc.cell? ⟨gb414,0,none⟩=some (.int .i64 a0_0):=(bC_ BK414.out 0).trans rfl
       have Z32_1:wc.cell? ⟨gb414,1,none⟩=some (.int .i64 a0_1):=(bC_ BK414.out 1).trans rfl
       have Z32_2:wc.cell? ⟨gb414,2,none⟩=some (.int .i64 a0_2):=(bC_ BK414.out 2).trans rfl
       have Z32_3:wc.cell? ⟨gb414,3,none⟩=some (.int .i64 a0_3):=(bC_ BK414.out 3).trans rfl
       have Z32_4:wc.cell? ⟨gb414,4,none⟩=some (.string a0_4):=(bC_ BK414.out 4).trans rfl
       have Y32_0:=bF_ BK414.out 0
       have Y32_1:=bF_ BK414.out 1
       have Y32_2:=bF_ BK414.out 2
       have Y32_3:=bF_ BK414.out 3
       have Y32_4:=bF_ BK414.out 4
       go_wp2
       go_ret
       exact ⟨fi_,bel_⟩

def spec_EntryOk.f (k:Nat) (a0_0:Int) (a0_1:Int) (a0_2:Int) (a0_3:Int) (a0_4:Int) (a0_5:Int) (a0_6:ByteArray):Option (Bool):=(spec_l6In.f a0_0 1 3).bind fun t422=>(if t422=true then ((spec_l6In.f a0_1 1 40).bind fun t423=>(if t423=true then ((spec_OpOk.f k a0_2 a0_3 a0_4 a0_5 a0_6).bind fun t424=>(if t424=true then (if a0_2=1 then (some ((wrap64 (Int.tdiv a0_3 10))==a0_0)) else (some true)) else (some false))) else (some false))) else (some false))
theorem spec_EntryOk.mono:∀ a0 a1 a2 a3 a4 a5 a6 k,LeO (spec_EntryOk.f k a0 a1 a2 a3 a4 a5 a6) (spec_EntryOk.f (k+1) a0 a1 a2 a3 a4 a5 a6):=by
 intro a0 a1 a2 a3 a4 a5 a6 k
 unfold spec_EntryOk.f
 repeat' first
   | (with_reducible exact spec_OpOk.mono _ _ _ _ _ _)
   | (with_reducible exact LeO.refl _)
   | (with_reducible exact LeO.none _)
   | (with_reducible refine LeO.ite ?_ ?_)
   | (with_reducible refine LeO.bind ?_ (fun _=>?_))
   | exact spec_OpOk.mono _ _ _ _ _ _
   | exact LeO.none _
   | refine LeO.ite ?_ ?_
   | refine LeO.bind ?_ (fun _=>?_)
theorem spec_EntryOk.calls (k:Nat) (a0_0:Int) (a0_1:Int) (a0_2:Int) (a0_3:Int) (a0_4:Int) (a0_5:Int) (a0_6:ByteArray) (r:Bool) (w:World) (h:spec_EntryOk.f k a0_0 a0_1 a0_2 a0_3 a0_4 a0_5 a0_6=some r) :
  Calls Tryd.prog 30 #[.agg #[.int .i64 a0_0,.int .i64 a0_1,.int .i64 a0_2,.int .i64 a0_3,.int .i64 a0_4,.int .i64 a0_5,.string a0_6]] w fun e w'=>e=.returned (.bool r)∧Below w.heap.size w w':=by
 have hu44:=Tryd.underlying44
 have hu42:=Tryd.underlying42
 have HB:=a_ (Below.refl w.heap.size w)
 unfold spec_EntryOk.f at h
 have H:=h
 clear h
 replace H:=bs_ H
 obtain ⟨t422,A20,H⟩:=H
 try dsimp only at H
 have A2:=a_ A20
 clear A20
 by_cases c3:t422=true
 ·subst c3
  have H1:((spec_l6In.f a0_1 1 40).bind fun t423=>(if t423=true then ((spec_OpOk.f k a0_2 a0_3 a0_4 a0_5 a0_6).bind fun t424=>(if t424=true then (if a0_2=1 then (some ((wrap64 (Int.tdiv a0_3 10))==a0_0)) else (some true)) else (some false))) else (some false)))=some r:=by rw [if_pos rfl] at H;exact H
  clear H
  have H:=H1
  clear H1
  replace H:=bs_ H
  obtain ⟨t423,A40,H⟩:=H
  try dsimp only at H
  have A4:=a_ A40
  clear A40
  by_cases c5:t423=true
  ·subst c5
   have H1:((spec_OpOk.f k a0_2 a0_3 a0_4 a0_5 a0_6).bind fun t424=>(if t424=true then (if a0_2=1 then (some ((wrap64 (Int.tdiv a0_3 10))==a0_0)) else (some true)) else (some false)))=some r:=by rw [if_pos rfl] at H;exact H
   clear H
   have H:=H1
   clear H1
   replace H:=bs_ H
   obtain ⟨t424,A60,H⟩:=H
   try dsimp only at H
   have A6:=a_ A60
   clear A60
   by_cases c7:t424=true
   ·subst c7
    have H1:(if a0_2=1 then (some ((wrap64 (Int.tdiv a0_3 10))==a0_0)) else (some true))=some r:=by rw [if_pos rfl] at H;exact H
    clear H
    have H:=H1
    clear H1
    by_cases c8:a0_2=1
    ·rw [if_pos c8] at H
     have c8b0:(a0_2==1)=true:=beq_iff_eq.mpr c8
     have c8b1:(a0_2 != 1)=false:=be_ c8
     clear c8
     obtain rfl:=sj_ H
     go_enter Tryd.func30,Tryd.ntmps30
     go_wp2_with (first|((with_reducible refine gD_ (N:=1) rfl ?_);refine bx_ 1 (#[.int .i64 a0_0,.int .i64 a0_1,.int .i64 a0_2,.int .i64 a0_3,.int .i64 a0_4,.int .i64 a0_5,.string a0_6]) 44 ?_;intro gb421 hg w9 hbox hb;have n0_:=a_ (bS_ (bel_) hb);have n1_:=a_ (hbox);have n2_:=a_ ((by rw [hg];exact (below_size (bel_)):w.heap.size≤gb421));have n3_:=a_ ((by rw [hg];exact (below_size (bel_)):w.heap.size≤gb421));clear HB;have HB:=n0_;have BK421:=n1_;have GW421:=n2_;have GE421:=n3_;clear n0_ n1_ n2_ n3_;clear hb hbox hg;have Z10_0:=cz_ BK421.out 0 (.int .i64 a0_0);have Z10_1:=cz_ BK421.out 1 (.int .i64 a0_1);have Z10_2:=cz_ BK421.out 2 (.int .i64 a0_2);have Z10_3:=cz_ BK421.out 3 (.int .i64 a0_3);have Z10_4:=cz_ BK421.out 4 (.int .i64 a0_4);have Z10_5:=cz_ BK421.out 5 (.int .i64 a0_5);have Z10_6:=cz_ BK421.out 6 (.string a0_6);have Y10_0:=bF_ BK421.out 0;have Y10_1:=bF_ BK421.out 1;have Y10_2:=bF_ BK421.out 2;have Y10_3:=bF_ BK421.out 3;have Y10_4:=bF_ BK421.out 4;have Y10_5:=bF_ BK421.out 5;have Y10_6:=bF_ BK421.out 6)|((with_reducible refine gC_ (f:=75) rfl ?_);refine gl_ 5 Tryd.func75 #[.int .i64 a0_0,.int .i64 1,.int .i64 3] ?_;(with_reducible refine (spec_l6In.calls a0_0 1 3 true _ A2.out).mono ?_);rintro e w' ⟨rfl,⟨nd,rfl⟩⟩;refine ⟨_,rfl,?_⟩)|(go_at_call 75;(with_reducible refine (spec_l6In.calls a0_1 1 40 true _ A4.out).mono ?_);rintro e w' ⟨rfl,⟨nd,rfl⟩⟩)|(go_at_call 84;(with_reducible refine (spec_OpOk.calls k a0_2 a0_3 a0_4 a0_5 a0_6 true _ A6.out).mono ?_);rintro e w11 ⟨rfl,hb⟩;replace HB:=a_ (bS_ (bel_) hb);replace BK421:=a_ (bb_ BK421.out hb);(try clear hb);have Z12_0:=cz_ BK421.out 0 (.int .i64 a0_0);have Z12_1:=cz_ BK421.out 1 (.int .i64 a0_1);have Z12_2:=cz_ BK421.out 2 (.int .i64 a0_2);have Z12_3:=cz_ BK421.out 3 (.int .i64 a0_3);have Z12_4:=cz_ BK421.out 4 (.int .i64 a0_4);have Z12_5:=cz_ BK421.out 5 (.int .i64 a0_5);have Z12_6:=cz_ BK421.out 6 (.string a0_6);have Y12_0:=bF_ BK421.out 0;have Y12_1:=bF_ BK421.out 1;have Y12_2:=bF_ BK421.out 2;have Y12_3:=bF_ BK421.out 3;have Y12_4:=bF_ BK421.out 4;have Y12_5:=bF_ BK421.out 5;have Y12_6:=bF_ BK421.out 6))
     go_ret
     exact ⟨fi_,bel_⟩
    ·rw [if_neg c8] at H
     have c8b0:(a0_2==1)=false:=bn_ c8
     have c8b1:(a0_2 != 1)=true:=bne_iff_ne.mpr c8
     obtain rfl:=sj_ H
     go_enter Tryd.func30,Tryd.ntmps30
     go_wp2_with (first|((with_reducible refine gD_ (N:=1) rfl ?_);refine bx_ 1 (#[.int .i64 a0_0,.int .i64 a0_1,.int .i64 a0_2,.int .i64 a0_3,.int .i64 a0_4,.int .i64 a0_5,.string a0_6]) 44 ?_;intro gb421 hg w13 hbox hb;have n0_:=a_ (bS_ (bel_) hb);have n1_:=a_ (hbox);have n2_:=a_ ((by rw [hg];exact (below_size (bel_)):w.heap.size≤gb421));have n3_:=a_ ((by rw [hg];exact (below_size (bel_)):w.heap.size≤gb421));clear HB;have HB:=n0_;have BK421:=n1_;have GW421:=n2_;have GE421:=n3_;clear n0_ n1_ n2_ n3_;clear hb hbox hg;have Z14_0:=cz_ BK421.out 0 (.int .i64 a0_0);have Z14_1:=cz_ BK421.out 1 (.int .i64 a0_1);have Z14_2:=cz_ BK421.out 2 (.int .i64 a0_2);have Z14_3:=cz_ BK421.out 3 (.int .i64 a0_3);have Z14_4:=cz_ BK421.out 4 (.int .i64 a0_4);have Z14_5:=cz_ BK421.out 5 (.int .i64 a0_5);have Z14_6:=cz_ BK421.out 6 (.string a0_6);have Y14_0:=bF_ BK421.out 0;have Y14_1:=bF_ BK421.out 1;have Y14_2:=bF_ BK421.out 2;have Y14_3:=bF_ BK421.out 3;have Y14_4:=bF_ BK421.out 4;have Y14_5:=bF_ BK421.out 5;have Y14_6:=bF_ BK421.out 6)|((with_reducible refine gC_ (f:=75) rfl ?_);refine gl_ 5 Tryd.func75 #[.int .i64 a0_0,.int .i64 1,.int .i64 3] ?_;(with_reducible refine (spec_l6In.calls a0_0 1 3 true _ A2.out).mono ?_);rintro e w' ⟨rfl,⟨nd,rfl⟩⟩;refine ⟨_,rfl,?_⟩)|(go_at_call 75;(with_reducible refine (spec_l6In.calls a0_1 1 40 true _ A4.out).mono ?_);rintro e w' ⟨rfl,⟨nd,rfl⟩⟩)|(go_at_call 84;(with_reducible refine (spec_OpOk.calls k a0_2 a0_3 a0_4 a0_5 a0_6 true _ A6.out).mono ?_);rintro e w15 ⟨rfl,hb⟩;replace HB:=a_ (bS_ (bel_) hb);replace BK421:=a_ (bb_ BK421.out hb);(try clear hb);have Z16_0:=cz_ BK421.out 0 (.int .i64 a0_0);have Z16_1:=cz_ BK421.out 1 (.int .i64 a0_1);have Z16_2:=cz_ BK421.out 2 (.int .i64 a0_2);have Z16_3:=cz_ BK421.out 3 (.int .i64 a0_3);have Z16_4:=cz_ BK421.out 4 (.int .i64 a0_4);have Z16_5:=cz_ BK421.out 5 (.int .i64 a0_5);have Z16_6:=cz_ BK421.out 6 (.string a0_6);have Y16_0:=bF_ BK421.out 0;have Y16_1:=bF_ BK421.out 1;have Y16_2:=bF_ BK421.out 2;have Y16_3:=bF_ BK421.out 3;have Y16_4:=bF_ BK421.out 4;have Y16_5:=bF_ BK421.out 5;have Y16_6:=bF_ BK421.out 6))
     go_ret
     exact ⟨fi_,bel_⟩
   ·replace c7:=Bool.eq_false_iff.mpr c7
    subst c7
    have H1:(some false)=some r:=by rw [if_neg (show ¬ (false=true) by decide)] at H;exact H
    clear H
    have H:=H1
    clear H1
    obtain rfl:=sj_ H
    go_enter Tryd.func30,Tryd.ntmps30
    go_wp2_with (first|((with_reducible refine gD_ (N:=1) rfl ?_);refine bx_ 1 (#[.int .i64 a0_0,.int .i64 a0_1,.int .i64 a0_2,.int .i64 a0_3,.int .i64 a0_4,.int .i64 a0_5,.string a0_6]) 44 ?_;intro gb421 hg w17 hbox hb;have n0_:=a_ (bS_ (bel_) hb);have n1_:=a_ (hbox);have n2_:=a_ ((by rw [hg];exact (below_size (bel_)):w.heap.size≤gb421));have n3_:=a_ ((by rw [hg];exact (below_size (bel_)):w.heap.size≤gb421));clear HB;have HB:=n0_;have BK421:=n1_;have GW421:=n2_;have GE421:=n3_;clear n0_ n1_ n2_ n3_;clear hb hbox hg;have Z18_0:=cz_ BK421.out 0 (.int .i64 a0_0);have Z18_1:=cz_ BK421.out 1 (.int .i64 a0_1);have Z18_2:=cz_ BK421.out 2 (.int .i64 a0_2);have Z18_3:=cz_ BK421.out 3 (.int .i64 a0_3);have Z18_4:=cz_ BK421.out 4 (.int .i64 a0_4);have Z18_5:=cz_ BK421.out 5 (.int .i64 a0_5);have Z18_6:=cz_ BK421.out 6 (.string a0_6);have Y18_0:=bF_ BK421.out 0;have Y18_1:=bF_ BK421.out 1;have Y18_2:=bF_ BK421.out 2;have Y18_3:=bF_ BK421.out 3;have Y18_4:=bF_ BK421.out 4;have Y18_5:=bF_ BK421.out 5;have Y18_6:=bF_ BK421.out 6)|((with_reducible refine gC_ (f:=75) rfl ?_);refine gl_ 5 Tryd.func75 #[.int .i64 a0_0,.int .i64 1,.int .i64 3] ?_;(with_reducible refine (spec_l6In.calls a0_0 1 3 true _ A2.out).mono ?_);rintro e w' ⟨rfl,⟨nd,rfl⟩⟩;refine ⟨_,rfl,?_⟩)|(go_at_call 75;(with_reducible refine (spec_l6In.calls a0_1 1 40 true _ A4.out).mono ?_);rintro e w' ⟨rfl,⟨nd,rfl⟩⟩)|(go_at_call 84;(with_reducible refine (spec_OpOk.calls k a0_2 a0_3 a0_4 a0_5 a0_6 false _ A6.out).mono ?_);rintro e w19 ⟨rfl,hb⟩;replace HB:=a_ (bS_ (bel_) hb);replace BK421:=a_ (bb_ BK421.out hb);(try clear hb)))
    go_ret
    exact ⟨fi_,bel_⟩
  ·replace c5:=Bool.eq_false_iff.mpr c5
   subst c5
   have H1:(some false)=some r:=by rw [if_neg (show ¬ (false=true) by decide)] at H;exact H
   clear H
   have H:=H1
   clear H1
   obtain rfl:=sj_ H
   go_enter Tryd.func30,Tryd.ntmps30
   go_wp2_with (first|((with_reducible refine gD_ (N:=1) rfl ?_);refine bx_ 1 (#[.int .i64 a0_0,.int .i64 a0_1,.int .i64 a0_2,.int .i64 a0_3,.int .i64 a0_4,.int .i64 a0_5,.string a0_6]) 44 ?_;intro gb421 hg w20 hbox hb;have n0_:=a_ (bS_ (bel_) hb);have n1_:=a_ (hbox);have n2_:=a_ ((by rw [hg];exact (below_size (bel_)):w.heap.size≤gb421));have n3_:=a_ ((by rw [hg];exact (below_size (bel_)):w.heap.size≤gb421));clear HB;have HB:=n0_;have BK421:=n1_;have GW421:=n2_;have GE421:=n3_;clear n0_ n1_ n2_ n3_;clear hb hbox hg;have Z21_0:=cz_ BK421.out 0 (.int .i64 a0_0);have Z21_1:=cz_ BK421.out 1 (.int .i64 a0_1);have Z21_2:=cz_ BK421.out 2 (.int .i64 a0_2);have Z21_3:=cz_ BK421.out 3 (.int .i64 a0_3);have Z21_4:=cz_ BK421.out 4 (.int .i64 a0_4);have Z21_5:=cz_ BK421.out 5 (.int .i64 a0_5);have Z21_6:=cz_ BK421.out 6 (.string a0_6);have Y21_0:=bF_ BK421.out 0;have Y21_1:=bF_ BK421.out 1;have Y21_2:=bF_ BK421.out 2;have Y21_3:=bF_ BK421.out 3;have Y21_4:=bF_ BK421.out 4;have Y21_5:=bF_ BK421.out 5;have Y21_6:=bF_ BK421.out 6)|((with_reducible refine gC_ (f:=75) rfl ?_);refine gl_ 5 Tryd.func75 #[.int .i64 a0_0,.int .i64 1,.int .i64 3] ?_;(with_reducible refine (spec_l6In.calls a0_0 1 3 true _ A2.out).mono ?_);rintro e w' ⟨rfl,⟨nd,rfl⟩⟩;refine ⟨_,rfl,?_⟩)|(go_at_call 75;(with_reducible refine (spec_l6In.calls a0_1 1 40 false _ A4.out).mono ?_);rintro e w' ⟨rfl,⟨nd,rfl⟩⟩))
   go_ret
   exact ⟨fi_,bel_⟩
 ·replace c3:=Bool.eq_false_iff.mpr c3
  subst c3
  have H1:(some false)=some r:=by rw [if_neg (show ¬ (false=true) by decide)] at H;exact H
  clear H
  have H:=H1
  clear H1
  obtain rfl:=sj_ H
  go_enter Tryd.func30,Tryd.ntmps30
  go_wp2_with (first|((with_reducible refine gD_ (N:=1) rfl ?_);refine bx_ 1 (#[.int .i64 a0_0,.int .i64 a0_1,.int .i64 a0_2,.int .i64 a0_3,.int .i64 a0_4,.int .i64 a0_5,.string a0_6]) 44 ?_;intro gb421 hg w22 hbox hb;have n0_:=a_ (bS_ (bel_) hb);have n1_:=a_ (hbox);have n2_:=a_ ((by rw [hg];exact (below_size (bel_)):w.heap.size≤gb421));have n3_:=a_ ((by rw [hg];exact (below_size (bel_)):w.heap.size≤gb421));clear HB;have HB:=n0_;have BK421:=n1_;have GW421:=n2_;have GE421:=n3_;clear n0_ n1_ n2_ n3_;clear hb hbox hg;have Z23_0:=cz_ BK421.out 0 (.int .i64 a0_0);have Z23_1:=cz_ BK421.out 1 (.int .i64 a0_1);have Z23_2:=cz_ BK421.out 2 (.int .i64 a0_2);have Z23_3:=cz_ BK421.out 3 (.int .i64 a0_3);have Z23_4:=cz_ BK421.out 4 (.int .i64 a0_4);have Z23_5:=cz_ BK421.out 5 (.int .i64 a0_5);have Z23_6:=cz_ BK421.out 6 (.string a0_6);have Y23_0:=bF_ BK421.out 0;have Y23_1:=bF_ BK421.out 1;have Y23_2:=bF_ BK421.out 2;have Y23_3:=bF_ BK421.out 3;have Y23_4:=bF_ BK421.out 4;have Y23_5:=bF_ BK421.out 5;have Y23_6:=bF_ BK421.out 6)|((with_reducible refine gC_ (f:=75) rfl ?_);refine gl_ 5 Tryd.func75 #[.int .i64 a0_0,.int .i64 1,.int .i64 3] ?_;(with_reducible refine (spec_l6In.calls a0_0 1 3 false _ A2.out).mono ?_);rintro e w' ⟨rfl,⟨nd,rfl⟩⟩;refine ⟨_,rfl,?_⟩))
  go_ret
  exact ⟨fi_,bel_⟩

def spec_LogOk.l0:Nat→List (S44)→Int→Option (Bool)
 | 0,_,_=>none
 | k+1,x0,x3=>if x3 < (x0.length:Int) then (if 0≤x3 then ((spec_EntryOk.f k ((rd_T44 x0 x3).f0) ((rd_T44 x0 x3).f1) ((rd_T44 x0 x3).f2.f0) ((rd_T44 x0 x3).f2.f1) ((rd_T44 x0 x3).f2.f2) ((rd_T44 x0 x3).f2.f3) ((rd_T44 x0 x3).f2.f4)).bind fun t426=>(if t426=true then (if x3≤(x0.length:Int) then ((spec_l12Seq.f k (x0.take (x3:Int).toNat) ((rd_T44 x0 x3).f0)).bind fun t433=>(if ((rd_T44 x0 x3).f1)=(wrap64 (t433+1)) then (spec_LogOk.l0 k x0 (wrap64 (x3+1))) else (some false))) else (none)) else (some false))) else (none)) else (some (decide ((x0.length:Int)≤40)))
def spec_LogOk.f (k:Nat) (l0:List (S44)):Option (Bool):=spec_LogOk.l0 k l0 0
theorem spec_LogOk.mono_l:∀ k,(∀ y0 y1,LeO (spec_LogOk.l0 k y0 y1) (spec_LogOk.l0 (k+1) y0 y1))
 | 0=>fun _ _ r h=>by simp [spec_LogOk.l0] at h
 | k+1=>by
  have ih0:=spec_LogOk.mono_l k
  ·intro y0 y1
   unfold spec_LogOk.l0
   repeat' first
   | (with_reducible exact ih0 _ _)
   | (with_reducible exact spec_EntryOk.mono _ _ _ _ _ _ _ _)
   | (with_reducible exact spec_l12Seq.mono _ _ _)
   | (with_reducible exact LeO.refl _)
   | (with_reducible exact LeO.none _)
   | (with_reducible refine LeO.ite ?_ ?_)
   | (with_reducible refine LeO.bind ?_ (fun _=>?_))
   | exact ih0 _ _
   | exact spec_EntryOk.mono _ _ _ _ _ _ _ _
   | exact spec_l12Seq.mono _ _ _
   | exact LeO.none _
   | refine LeO.ite ?_ ?_
   | refine LeO.bind ?_ (fun _=>?_)
theorem spec_LogOk.mono:∀ a0 k,LeO (spec_LogOk.f k a0) (spec_LogOk.f (k+1) a0):=by
 intro a0 k
 have ih0:=spec_LogOk.mono_l k
 unfold spec_LogOk.f
 repeat' first
   | (with_reducible exact ih0 _ _)
   | (with_reducible exact spec_EntryOk.mono _ _ _ _ _ _ _ _)
   | (with_reducible exact spec_l12Seq.mono _ _ _)
   | (with_reducible exact LeO.refl _)
   | (with_reducible exact LeO.none _)
   | (with_reducible refine LeO.ite ?_ ?_)
   | (with_reducible refine LeO.bind ?_ (fun _=>?_))
   | exact ih0 _ _
   | exact spec_EntryOk.mono _ _ _ _ _ _ _ _
   | exact spec_l12Seq.mono _ _ _
   | exact LeO.none _
   | refine LeO.ite ?_ ?_
   | refine LeO.bind ?_ (fun _=>?_)
def spec_LogOk.T4:Bool×List (List Nat×List Nat):=(true,[([],[]),([],[]),([0,1],[0,1]),([2],[2]),([3],[3]),([4],[4]),([5,4],[5]),([6],[6]),([6],[6]),([7,8,6],[6,7,8]),([9,6],[6,9]),([10,6],[6,10]),([6],[6]),([6],[6]),([12,13,6],[6,12,13]),([6],[6]),([6],[6]),([15,16,6],[6,15,16]),([17,6],[6,17]),([18,6],[6,18]),([14,19,6,6],[6,14,19]),([20,6],[6,20]),([11,21,6],[6,11,21]),([6,22],[6,22])])
def spec_LogOk.B4:List Nat:=[0,0,3,7,15,31,63,127,127,511,1023,2047,127,127,12415,127,127,98431,229503,491647,1044607,2093183,4194303,8388607]
theorem spec_LogOk.tab4:rtab .any (opsOf Tryd.f43 4)=spec_LogOk.T4:=by kernel_rfl
theorem spec_LogOk.bits4:waitsOk spec_LogOk.T4.2 spec_LogOk.B4=true:=by kernel_rfl
theorem spec_LogOk.calls (k:Nat) (A0:Option Addr) (c0:Nat) (l0:List (S44)) (r:Bool) (w:World) (hr0:Kd.C k44 w A0 l0.length l0) (hc0:l0.length≤c0) (h:spec_LogOk.f k l0=some r) :
  Calls Tryd.prog 43 #[.slice A0 l0.length c0] w fun e w'=>e=.returned (.bool r)∧Below w.heap.size w w':=by
 have hu44:=Tryd.underlying44
 have HR0:=a_ hr0
 have HC0:=a_ hc0
 clear hr0 hc0
 have HB:=a_ (Below.refl w.heap.size w)
 unfold spec_LogOk.f at h
 have H:=h
 clear h
 have H':=a_ H
 clear H
 go_enter Tryd.func43,Tryd.ntmps43
 go_wp2
 go_loopg [3] k (fun kq v3 w'=>∃ (x3_1:Int),v3=.int .i64 x3_1∧Aside0 (spec_LogOk.l0 kq l0 x3_1=some r)∧Aside0 (kq≤k)∧Aside0 (Below w.heap.size w w'))
 case atStart=>exact ⟨(0),(si_),H',⟨Nat.le_refl _⟩,⟨bel_⟩⟩
 case round =>
  clear H'
  obtain ⟨x3_1,rfl,HA,HK1,HB⟩:=hrel
  cases gk with
  | zero=>exact absurd HA.out (by simp [spec_LogOk.l0])
  | succ k1 =>
   have H:=HA.out
   clear HA
   simp only [spec_LogOk.l0] at H
   by_cases c2:x3_1 < (l0.length:Int)
   ·rw [if_pos c2] at H
    have c2b0:decide (x3_1 < (l0.length:Int))=true:=dt_ c2
    clear c2
    by_cases c3:0≤x3_1
    ·rw [if_pos c3] at H
     have c3b0:decide (0≤x3_1)=true:=dt_ c3
     clear c3
     replace H:=bs_ H
     obtain ⟨t426,A40,H⟩:=H
     try dsimp only at H
     have A4:=a_ A40
     clear A40
     by_cases c5:t426=true
     ·subst c5
      have H1:(if x3_1≤(l0.length:Int) then ((spec_l12Seq.f k1 (l0.take (x3_1:Int).toNat) ((rd_T44 l0 x3_1).f0)).bind fun t433=>(if ((rd_T44 l0 x3_1).f1)=(wrap64 (t433+1)) then (spec_LogOk.l0 k1 l0 (wrap64 (x3_1+1))) else (some false))) else (none))=some r:=by rw [if_pos rfl] at H;exact H
      clear H
      have H:=H1
      clear H1
      have c6b0:=eq_true (od_:0≤x3_1)
      by_cases c7:x3_1≤(l0.length:Int)
      ·rw [if_pos c7] at H
       have c7b0:=eq_true c7
       have c7b1:decide (x3_1≤(l0.length:Int))=true:=dt_ c7
       clear c7
       obtain ⟨y428,hy428⟩:∃ y_:List (S44),y_=(l0.take (x3_1:Int).toNat):=⟨_,rfl⟩
       replace H:((spec_l12Seq.f k1 y428 ((rd_T44 l0 x3_1).f0)).bind fun t433=>(if ((rd_T44 l0 x3_1).f1)=(wrap64 (t433+1)) then (spec_LogOk.l0 k1 l0 (wrap64 (x3_1+1))) else (some false)))=some r:=by first|(rw [hy428];with_reducible exact H)|(have H2_:=(Option.bind_some _ _).symm.trans H;rw [hy428];with_reducible exact H2_)|(have H2_:=(Option.bind_some _ _).symm.trans H;with_reducible exact H2_)|with_reducible exact H|(rw [hy428];exact H)|exact H
       have Ny428:=a_ hy428
       clear hy428
       replace H:=bs_ H
       obtain ⟨t433,A80,H⟩:=H
       try dsimp only at H
       have A8:=a_ A80
       clear A80
       by_cases c9:((rd_T44 l0 x3_1).f1)=(wrap64 (t433+1))
       ·rw [if_pos c9] at H
        have c9b0:(((rd_T44 l0 x3_1).f1)==(wrap64 (t433+1)))=true:=beq_iff_eq.mpr c9
        have c9b1:(((rd_T44 l0 x3_1).f1) != (wrap64 (t433+1)))=false:=be_ c9
        clear c9
        have H':=a_ H
        clear H
        try go_wp2
        have n0_:=a_ (below_drew1 HB.out)
        clear HB
        have HB:=n0_
        clear n0_
        have p425:0≤(x3_1:Int):=od_
        have q425:x3_1 < (l0.length:Int):=od_
        obtain ⟨ad425,e425,hx425_0,hx425_1,hx425_2,hx425_3,hx425_4,hx425_5,hx425_6⟩:=at_T44 HR0.out x3_1 p425 q425
        have hw425_6:=hx425_6
        have hw425_5:=hx425_5
        have hw425_4:=hx425_4
        have hw425_3:=hx425_3
        have hw425_2:=hx425_2
        have hw425_1:=hx425_1
        have hw425_0:=hx425_0
        cases e425
        replace hx425_0:=(cb_ HB.out hx425_0 :)
        replace hx425_1:=(cb_ HB.out hx425_1 :)
        replace hx425_2:=(cb_ HB.out hx425_2 :)
        replace hx425_3:=(cb_ HB.out hx425_3 :)
        replace hx425_4:=(cb_ HB.out hx425_4 :)
        replace hx425_5:=(cb_ HB.out hx425_5 :)
        replace hx425_6:=(cb_ HB.out hx425_6 :)
        replace p425:=eq_true p425
        replace q425:=eq_true q425
        have p427:0≤(x3_1:Int):=od_
        have q427:x3_1 < (l0.length:Int):=od_
        obtain ⟨ad427,e427,hx427_0,hx427_1,hx427_2,hx427_3,hx427_4,hx427_5,hx427_6⟩:=at_T44 HR0.out x3_1 p427 q427
        have hw427_6:=hx427_6
        have hw427_5:=hx427_5
        have hw427_4:=hx427_4
        have hw427_3:=hx427_3
        have hw427_2:=hx427_2
        have hw427_1:=hx427_1
        have hw427_0:=hx427_0
        obtain rfl:ad425=ad427:=(by injection e427)
        replace hx427_0:=(cb_ HB.out hx427_0 :)
        replace hx427_1:=(cb_ HB.out hx427_1 :)
        replace hx427_2:=(cb_ HB.out hx427_2 :)
        replace hx427_3:=(cb_ HB.out hx427_3 :)
        replace hx427_4:=(cb_ HB.out hx427_4 :)
        replace hx427_5:=(cb_ HB.out hx427_5 :)
        replace hx427_6:=(cb_ HB.out hx427_6 :)
        replace p427:=eq_true p427
        replace q427:=eq_true q427
        have p432:0≤(x3_1:Int):=od_
        have q432:x3_1 < (l0.length:Int):=od_
        obtain ⟨ad432,e432,hx432_0,hx432_1,hx432_2,hx432_3,hx432_4,hx432_5,hx432_6⟩:=at_T44 HR0.out x3_1 p432 q432
        have hw432_6:=hx432_6
        have hw432_5:=hx432_5
        have hw432_4:=hx432_4
        have hw432_3:=hx432_3
        have hw432_2:=hx432_2
        have hw432_1:=hx432_1
        have hw432_0:=hx432_0
        obtain rfl:ad425=ad432:=(by injection e432)
        replace hx432_0:=(cb_ HB.out hx432_0 :)
        replace hx432_1:=(cb_ HB.out hx432_1 :)
        replace hx432_2:=(cb_ HB.out hx432_2 :)
        replace hx432_3:=(cb_ HB.out hx432_3 :)
        replace hx432_4:=(cb_ HB.out hx432_4 :)
        replace hx432_5:=(cb_ HB.out hx432_5 :)
        replace hx432_6:=(cb_ HB.out hx432_6 :)
        replace p432:=eq_true p432
        replace q432:=eq_true q432
        refine start_ (n:=24) (S:=fun w'=>w'.cell? (ad425.add ((x3_1).toNat * 7))=some (.int .i64 ((rd_T44 l0 x3_1).f0))∧w'.cell? ⟨(ad425.add ((x3_1).toNat * 7)).block,(ad425.add ((x3_1).toNat * 7)).off+1,none⟩=some (.int .i64 ((rd_T44 l0 x3_1).f1))∧w'.cell? ⟨(ad425.add ((x3_1).toNat * 7)).block,(ad425.add ((x3_1).toNat * 7)).off+2,none⟩=some (.int .i64 ((rd_T44 l0 x3_1).f2.f0))∧w'.cell? ⟨(ad425.add ((x3_1).toNat * 7)).block,(ad425.add ((x3_1).toNat * 7)).off+3,none⟩=some (.int .i64 ((rd_T44 l0 x3_1).f2.f1))∧w'.cell? ⟨(ad425.add ((x3_1).toNat * 7)).block,(ad425.add ((x3_1).toNat * 7)).off+4,none⟩=some (.int .i64 ((rd_T44 l0 x3_1).f2.f2))∧w'.cell? ⟨(ad425.add ((x3_1).toNat * 7)).block,(ad425.add ((x3_1).toNat * 7)).off+5,none⟩=some (.int .i64 ((rd_T44 l0 x3_1).f2.f3))∧w'.cell? ⟨(ad425.add ((x3_1).toNat * 7)).block,(ad425.add ((x3_1).toNat * 7)).off+6,none⟩=some (.string ((rd_T44 l0 x3_1).f2.f4))∧w'.cell? (ad425.add ((x3_1).toNat * 7))=some (.int .i64 ((rd_T44 l0 x3_1).f0))∧w'.cell? ⟨(ad425.add ((x3_1).toNat * 7)).block,(ad425.add ((x3_1).toNat * 7)).off+1,none⟩=some (.int .i64 ((rd_T44 l0 x3_1).f1))∧w'.cell? ⟨(ad425.add ((x3_1).toNat * 7)).block,(ad425.add ((x3_1).toNat * 7)).off+2,none⟩=some (.int .i64 ((rd_T44 l0 x3_1).f2.f0))∧w'.cell? ⟨(ad425.add ((x3_1).toNat * 7)).block,(ad425.add ((x3_1).toNat * 7)).off+3,none⟩=some (.int .i64 ((rd_T44 l0 x3_1).f2.f1))∧w'.cell? ⟨(ad425.add ((x3_1).toNat * 7)).block,(ad425.add ((x3_1).toNat * 7)).off+4,none⟩=some (.int .i64 ((rd_T44 l0 x3_1).f2.f2))∧w'.cell? ⟨(ad425.add ((x3_1).toNat * 7)).block,(ad425.add ((x3_1).toNat * 7)).off+5,none⟩=some (.int .i64 ((rd_T44 l0 x3_1).f2.f3))∧w'.cell? ⟨(ad425.add ((x3_1).toNat * 7)).block,(ad425.add ((x3_1).toNat * 7)).off+6,none⟩=some (.string ((rd_T44 l0 x3_1).f2.f4))∧w'.cell? (ad425.add ((x3_1).toNat * 7))=some (.int .i64 ((rd_T44 l0 x3_1).f0))∧w'.cell? ⟨(ad425.add ((x3_1).toNat * 7)).block,(ad425.add ((x3_1).toNat * 7)).off+1,none⟩=some (.int .i64 ((rd_T44 l0 x3_1).f1))∧w'.cell? ⟨(ad425.add ((x3_1).toNat * 7)).block,(ad425.add ((x3_1).toNat * 7)).off+2,none⟩=some (.int .i64 ((rd_T44 l0 x3_1).f2.f0))∧w'.cell? ⟨(ad425.add ((x3_1).toNat * 7)).block,(ad425.add ((x3_1).toNat * 7)).off+3,none⟩=some (.int .i64 ((rd_T44 l0 x3_1).f2.f1))∧w'.cell? ⟨(ad425.add ((x3_1).toNat * 7)).block,(ad425.add ((x3_1).toNat * 7)).off+4,none⟩=some (.int .i64 ((rd_T44 l0 x3_1).f2.f2))∧w'.cell? ⟨(ad425.add ((x3_1).toNat * 7)).block,(ad425.add ((x3_1).toNat * 7)).off+5,none⟩=some (.int .i64 ((rd_T44 l0 x3_1).f2.f3))∧w'.cell? ⟨(ad425.add ((x3_1).toNat * 7)).block,(ad425.add ((x3_1).toNat * 7)).off+6,none⟩=some (.string ((rd_T44 l0 x3_1).f2.f4))) (ds:=[]) #[false,false,false,false,false,false,false,false,false,false,false,false,false,false,false,false,false,false,false,false,false,false,false,false] (by kernel_rfl) rfl rfl ⟨((cb_ HB.out hw425_0 :)),((cb_ HB.out hw425_1 :)),((cb_ HB.out hw425_2 :)),((cb_ HB.out hw425_3 :)),((cb_ HB.out hw425_4 :)),((cb_ HB.out hw425_5 :)),((cb_ HB.out hw425_6 :)),((cb_ HB.out hw427_0 :)),((cb_ HB.out hw427_1 :)),((cb_ HB.out hw427_2 :)),((cb_ HB.out hw427_3 :)),((cb_ HB.out hw427_4 :)),((cb_ HB.out hw427_5 :)),((cb_ HB.out hw427_6 :)),((cb_ HB.out hw432_0 :)),((cb_ HB.out hw432_1 :)),((cb_ HB.out hw432_2 :)),((cb_ HB.out hw432_3 :)),((cb_ HB.out hw432_4 :)),((cb_ HB.out hw432_5 :)),((cb_ HB.out hw432_6 :))⟩ (fun hHeld=>?_);refine with_tabW spec_LogOk.tab4 spec_LogOk.bits4 (fun HT_ HW_=>?_)
        generalize wr.drew=w10 at HB hx425_0 hx425_1 hx425_2 hx425_3 hx425_4 hx425_5 hx425_6 hx427_0 hx427_1 hx427_2 hx427_3 hx427_4 hx427_5 hx427_6 hx432_0 hx432_1 hx432_2 hx432_3 hx432_4 hx432_5 hx432_6 hHeld ⊢
        refine pa_ 0 10 ?_
        refine pa_ 1 11 ?_
        refine pa_ 2 12 ?_
        refine ta21_ 3 13 hHeld ?_
        refine on_ 4 14 (fun K hK=>?_)
        refine goes_ Tryd.func30 (by kernel_rfl) rfl #[.agg #[.int .i64 ((rd_T44 l0 x3_1).f0),.int .i64 ((rd_T44 l0 x3_1).f1),.int .i64 ((rd_T44 l0 x3_1).f2.f0),.int .i64 ((rd_T44 l0 x3_1).f2.f1),.int .i64 ((rd_T44 l0 x3_1).f2.f2),.int .i64 ((rd_T44 l0 x3_1).f2.f3),.string ((rd_T44 l0 x3_1).f2.f4)]] (by rfl) rfl rfl ar_ ?_
        with_reducible refine (spec_EntryOk.calls k1 ((rd_T44 l0 x3_1).f0) ((rd_T44 l0 x3_1).f1) ((rd_T44 l0 x3_1).f2.f0) ((rd_T44 l0 x3_1).f2.f1) ((rd_T44 l0 x3_1).f2.f2) ((rd_T44 l0 x3_1).f2.f3) ((rd_T44 l0 x3_1).f2.f4) true _ A4.out).mono ?_
        rintro e w11 ⟨rfl,hb⟩
        refine ⟨_,rfl,?_⟩
        have n0_:=a_ (bS_ (bel_) hb)
        clear HB
        have HB:=n0_
        clear n0_
        (try clear hb)
        (try clear hb2)
        (try clear hk)
        (try clear hi)
        have q12:(x3_1:Int)≤((l0.length:Int):Int):=od_
        obtain ⟨i012,hi012,_,hsz12,_⟩:=info_parts info44
        have hroom12:l0.length≤c0:=HC0.out
        have hC12:Kd.C k44 _ (some ad425) l0.length l0:=HR0.out
        have hcut12:=cut_to (P:=Tryd.prog) 23 44 .i64 Tryd.underlying23 hi012 (some ad425) l0.length c0 x3_1 (od_) q12 hroom12
        have hr12:=Kd.C_take (m:=(x3_1:Int).toNat) hC12 (by omega)
        have hy12:y428.length=(x3_1:Int).toNat:=(by rw [Ny428.out,List.length_take];omega)
        rw [←Ny428.out] at hr12
        rw [←hy12] at hcut12
        have HR431:=a_ hr12
        have HC431:=a_ (show y428.length≤c0 from by omega)
        clear hr12 hC12 hroom12 hi012 hsz12
        have KY12:=a_ hy12
        clear hy12
        replace q12:=eq_true q12
        refine hK.out _ _ ⟨((cb_ HB.out hw425_0 :)),((cb_ HB.out hw425_1 :)),((cb_ HB.out hw425_2 :)),((cb_ HB.out hw425_3 :)),((cb_ HB.out hw425_4 :)),((cb_ HB.out hw425_5 :)),((cb_ HB.out hw425_6 :)),((cb_ HB.out hw427_0 :)),((cb_ HB.out hw427_1 :)),((cb_ HB.out hw427_2 :)),((cb_ HB.out hw427_3 :)),((cb_ HB.out hw427_4 :)),((cb_ HB.out hw427_5 :)),((cb_ HB.out hw427_6 :)),((cb_ HB.out hw432_0 :)),((cb_ HB.out hw432_1 :)),((cb_ HB.out hw432_2 :)),((cb_ HB.out hw432_3 :)),((cb_ HB.out hw432_4 :)),((cb_ HB.out hw432_5 :)),((cb_ HB.out hw432_6 :))⟩ (fun hHeld=>?_)
        clear hK K
        refine no_ 14 ?_
        refine pa_ 5 15 ?_
        refine pa_ 6 16 ?_
        refine pa_ 7 17 ?_
        refine pa_ 8 18 ?_
        refine pa_ 9 19 ?_
        refine pa_ 10 20 ?_
        refine pa_ 12 22 ?_
        refine pa_ 13 23 ?_
        refine pa_ 14 24 ?_
        refine pa_ 15 25 ?_
        refine pa_ 16 26 ?_
        refine pa_ 17 27 ?_
        refine pa_ 18 28 ?_
        refine ta21_ 11 21 hHeld ?_
        refine ta21_ 19 29 hHeld ?_
        refine on_ 20 30 (fun K hK=>?_)
        refine goes_ Tryd.func90 (by kernel_rfl) rfl #[.slice (some ad425) y428.length c0,.int .i64 ((rd_T44 l0 x3_1).f0)] (by rfl) rfl rfl ar_ ?_
        with_reducible refine (spec_l12Seq.calls k1 _ _ y428 ((rd_T44 l0 x3_1).f0) t433 _ ?side1 ?side2 A8.out).mono ?_
        (case side1=>exact cp_ HR431.out)
        (case side2=>exact HC431.out)
        rintro e w' ⟨rfl,⟨nd,rfl⟩⟩
        refine ⟨_,rfl,?_⟩
        refine hK.out _ _ ⟨((cb_ HB.out hw425_0 :)),((cb_ HB.out hw425_1 :)),((cb_ HB.out hw425_2 :)),((cb_ HB.out hw425_3 :)),((cb_ HB.out hw425_4 :)),((cb_ HB.out hw425_5 :)),((cb_ HB.out hw425_6 :)),((cb_ HB.out hw427_0 :)),((cb_ HB.out hw427_1 :)),((cb_ HB.out hw427_2 :)),((cb_ HB.out hw427_3 :)),((cb_ HB.out hw427_4 :)),((cb_ HB.out hw427_5 :)),((cb_ HB.out hw427_6 :)),((cb_ HB.out hw432_0 :)),((cb_ HB.out hw432_1 :)),((cb_ HB.out hw432_2 :)),((cb_ HB.out hw432_3 :)),((cb_ HB.out hw432_4 :)),((cb_ HB.out hw432_5 :)),((cb_ HB.out hw432_6 :))⟩ (fun hHeld=>?_)
        clear hK K
        refine no_ 30 ?_
        refine pa_ 21 31 ?_
        refine pa_ 22 32 ?_
        refine pa_ 23 33 ?_
        refine done_ (done_of HT_.out (by kernel_rfl)) ?_
        try go_wp2
        go_roundg k1
        case measure=>have:=HK1.out;omega
        case rel=>exact ⟨(wrap64 (x3_1+1)),(si_),H',⟨by have:=HK1.out;omega⟩,⟨bel_⟩⟩
       ·rw [if_neg c9] at H
        have c9b0:(((rd_T44 l0 x3_1).f1)==(wrap64 (t433+1)))=false:=bn_ c9
        have c9b1:(((rd_T44 l0 x3_1).f1) != (wrap64 (t433+1)))=true:=bne_iff_ne.mpr c9
        obtain rfl:=sj_ H
        try go_wp2
        have n0_:=a_ (below_drew1 HB.out)
        clear HB
        have HB:=n0_
        clear n0_
        have p425:0≤(x3_1:Int):=od_
        have q425:x3_1 < (l0.length:Int):=od_
        obtain ⟨ad425,e425,hx425_0,hx425_1,hx425_2,hx425_3,hx425_4,hx425_5,hx425_6⟩:=at_T44 HR0.out x3_1 p425 q425
        have hw425_6:=hx425_6
        have hw425_5:=hx425_5
        have hw425_4:=hx425_4
        have hw425_3:=hx425_3
        have hw425_2:=hx425_2
        have hw425_1:=hx425_1
        have hw425_0:=hx425_0
        cases e425
        replace hx425_0:=(cb_ HB.out hx425_0 :)
        replace hx425_1:=(cb_ HB.out hx425_1 :)
        replace hx425_2:=(cb_ HB.out hx425_2 :)
        replace hx425_3:=(cb_ HB.out hx425_3 :)
        replace hx425_4:=(cb_ HB.out hx425_4 :)
        replace hx425_5:=(cb_ HB.out hx425_5 :)
        replace hx425_6:=(cb_ HB.out hx425_6 :)
        replace p425:=eq_true p425
        replace q425:=eq_true q425
        have p427:0≤(x3_1:Int):=od_
        have q427:x3_1 < (l0.length:Int):=od_
        obtain ⟨ad427,e427,hx427_0,hx427_1,hx427_2,hx427_3,hx427_4,hx427_5,hx427_6⟩:=at_T44 HR0.out x3_1 p427 q427
        have hw427_6:=hx427_6
        have hw427_5:=hx427_5
        have hw427_4:=hx427_4
        have hw427_3:=hx427_3
        have hw427_2:=hx427_2
        have hw427_1:=hx427_1
        have hw427_0:=hx427_0
        obtain rfl:ad425=ad427:=(by injection e427)
        replace hx427_0:=(cb_ HB.out hx427_0 :)
        replace hx427_1:=(cb_ HB.out hx427_1 :)
        replace hx427_2:=(cb_ HB.out hx427_2 :)
        replace hx427_3:=(cb_ HB.out hx427_3 :)
        replace hx427_4:=(cb_ HB.out hx427_4 :)
        replace hx427_5:=(cb_ HB.out hx427_5 :)
        replace hx427_6:=(cb_ HB.out hx427_6 :)
        replace p427:=eq_true p427
        replace q427:=eq_true q427
        have p432:0≤(x3_1:Int):=od_
        have q432:x3_1 < (l0.length:Int):=od_
        obtain ⟨ad432,e432,hx432_0,hx432_1,hx432_2,hx432_3,hx432_4,hx432_5,hx432_6⟩:=at_T44 HR0.out x3_1 p432 q432
        have hw432_6:=hx432_6
        have hw432_5:=hx432_5
        have hw432_4:=hx432_4
        have hw432_3:=hx432_3
        have hw432_2:=hx432_2
        have hw432_1:=hx432_1
        have hw432_0:=hx432_0
        obtain rfl:ad425=ad432:=(by injection e432)
        replace hx432_0:=(cb_ HB.out hx432_0 :)
        replace hx432_1:=(cb_ HB.out hx432_1 :)
        replace hx432_2:=(cb_ HB.out hx432_2 :)
        replace hx432_3:=(cb_ HB.out hx432_3 :)
        replace hx432_4:=(cb_ HB.out hx432_4 :)
        replace hx432_5:=(cb_ HB.out hx432_5 :)
        replace hx432_6:=(cb_ HB.out hx432_6 :)
        replace p432:=eq_true p432
        replace q432:=eq_true q432
        refine start_ (n:=24) (S:=fun w'=>w'.cell? (ad425.add ((x3_1).toNat * 7))=some (.int .i64 ((rd_T44 l0 x3_1).f0))∧w'.cell? ⟨(ad425.add ((x3_1).toNat * 7)).block,(ad425.add ((x3_1).toNat * 7)).off+1,none⟩=some (.int .i64 ((rd_T44 l0 x3_1).f1))∧w'.cell? ⟨(ad425.add ((x3_1).toNat * 7)).block,(ad425.add ((x3_1).toNat * 7)).off+2,none⟩=some (.int .i64 ((rd_T44 l0 x3_1).f2.f0))∧w'.cell? ⟨(ad425.add ((x3_1).toNat * 7)).block,(ad425.add ((x3_1).toNat * 7)).off+3,none⟩=some (.int .i64 ((rd_T44 l0 x3_1).f2.f1))∧w'.cell? ⟨(ad425.add ((x3_1).toNat * 7)).block,(ad425.add ((x3_1).toNat * 7)).off+4,none⟩=some (.int .i64 ((rd_T44 l0 x3_1).f2.f2))∧w'.cell? ⟨(ad425.add ((x3_1).toNat * 7)).block,(ad425.add ((x3_1).toNat * 7)).off+5,none⟩=some (.int .i64 ((rd_T44 l0 x3_1).f2.f3))∧w'.cell? ⟨(ad425.add ((x3_1).toNat * 7)).block,(ad425.add ((x3_1).toNat * 7)).off+6,none⟩=some (.string ((rd_T44 l0 x3_1).f2.f4))∧w'.cell? (ad425.add ((x3_1).toNat * 7))=some (.int .i64 ((rd_T44 l0 x3_1).f0))∧w'.cell? ⟨(ad425.add ((x3_1).toNat * 7)).block,(ad425.add ((x3_1).toNat * 7)).off+1,none⟩=some (.int .i64 ((rd_T44 l0 x3_1).f1))∧w'.cell? ⟨(ad425.add ((x3_1).toNat * 7)).block,(ad425.add ((x3_1).toNat * 7)).off+2,none⟩=some (.int .i64 ((rd_T44 l0 x3_1).f2.f0))∧w'.cell? ⟨(ad425.add ((x3_1).toNat * 7)).block,(ad425.add ((x3_1).toNat * 7)).off+3,none⟩=some (.int .i64 ((rd_T44 l0 x3_1).f2.f1))∧w'.cell? ⟨(ad425.add ((x3_1).toNat * 7)).block,(ad425.add ((x3_1).toNat * 7)).off+4,none⟩=some (.int .i64 ((rd_T44 l0 x3_1).f2.f2))∧w'.cell? ⟨(ad425.add ((x3_1).toNat * 7)).block,(ad425.add ((x3_1).toNat * 7)).off+5,none⟩=some (.int .i64 ((rd_T44 l0 x3_1).f2.f3))∧w'.cell? ⟨(ad425.add ((x3_1).toNat * 7)).block,(ad425.add ((x3_1).toNat * 7)).off+6,none⟩=some (.string ((rd_T44 l0 x3_1).f2.f4))∧w'.cell? (ad425.add ((x3_1).toNat * 7))=some (.int .i64 ((rd_T44 l0 x3_1).f0))∧w'.cell? ⟨(ad425.add ((x3_1).toNat * 7)).block,(ad425.add ((x3_1).toNat * 7)).off+1,none⟩=some (.int .i64 ((rd_T44 l0 x3_1).f1))∧w'.cell? ⟨(ad425.add ((x3_1).toNat * 7)).block,(ad425.add ((x3_1).toNat * 7)).off+2,none⟩=some (.int .i64 ((rd_T44 l0 x3_1).f2.f0))∧w'.cell? ⟨(ad425.add ((x3_1).toNat * 7)).block,(ad425.add ((x3_1).toNat * 7)).off+3,none⟩=some (.int .i64 ((rd_T44 l0 x3_1).f2.f1))∧w'.cell? ⟨(ad425.add ((x3_1).toNat * 7)).block,(ad425.add ((x3_1).toNat * 7)).off+4,none⟩=some (.int .i64 ((rd_T44 l0 x3_1).f2.f2))∧w'.cell? ⟨(ad425.add ((x3_1).toNat * 7)).block,(ad425.add ((x3_1).toNat * 7)).off+5,none⟩=some (.int .i64 ((rd_T44 l0 x3_1).f2.f3))∧w'.cell? ⟨(ad425.add ((x3_1).toNat * 7)).block,(ad425.add ((x3_1).toNat * 7)).off+6,none⟩=some (.string ((rd_T44 l0 x3_1).f2.f4))) (ds:=[]) #[false,false,false,false,false,false,false,false,false,false,false,false,false,false,false,false,false,false,false,false,false,false,false,false] (by kernel_rfl) rfl rfl ⟨((cb_ HB.out hw425_0 :)),((cb_ HB.out hw425_1 :)),((cb_ HB.out hw425_2 :)),((cb_ HB.out hw425_3 :)),((cb_ HB.out hw425_4 :)),((cb_ HB.out hw425_5 :)),((cb_ HB.out hw425_6 :)),((cb_ HB.out hw427_0 :)),((cb_ HB.out hw427_1 :)),((cb_ HB.out hw427_2 :)),((cb_ HB.out hw427_3 :)),((cb_ HB.out hw427_4 :)),((cb_ HB.out hw427_5 :)),((cb_ HB.out hw427_6 :)),((cb_ HB.out hw432_0 :)),((cb_ HB.out hw432_1 :)),((cb_ HB.out hw432_2 :)),((cb_ HB.out hw432_3 :)),((cb_ HB.out hw432_4 :)),((cb_ HB.out hw432_5 :)),((cb_ HB.out hw432_6 :))⟩ (fun hHeld=>?_);refine with_tabW spec_LogOk.tab4 spec_LogOk.bits4 (fun HT_ HW_=>?_)
        generalize wr.drew=w13 at HB hx425_0 hx425_1 hx425_2 hx425_3 hx425_4 hx425_5 hx425_6 hx427_0 hx427_1 hx427_2 hx427_3 hx427_4 hx427_5 hx427_6 hx432_0 hx432_1 hx432_2 hx432_3 hx432_4 hx432_5 hx432_6 hHeld ⊢
        refine pa_ 0 10 ?_
        refine pa_ 1 11 ?_
        refine pa_ 2 12 ?_
        refine ta21_ 3 13 hHeld ?_
        refine on_ 4 14 (fun K hK=>?_)
        refine goes_ Tryd.func30 (by kernel_rfl) rfl #[.agg #[.int .i64 ((rd_T44 l0 x3_1).f0),.int .i64 ((rd_T44 l0 x3_1).f1),.int .i64 ((rd_T44 l0 x3_1).f2.f0),.int .i64 ((rd_T44 l0 x3_1).f2.f1),.int .i64 ((rd_T44 l0 x3_1).f2.f2),.int .i64 ((rd_T44 l0 x3_1).f2.f3),.string ((rd_T44 l0 x3_1).f2.f4)]] (by rfl) rfl rfl ar_ ?_
        with_reducible refine (spec_EntryOk.calls k1 ((rd_T44 l0 x3_1).f0) ((rd_T44 l0 x3_1).f1) ((rd_T44 l0 x3_1).f2.f0) ((rd_T44 l0 x3_1).f2.f1) ((rd_T44 l0 x3_1).f2.f2) ((rd_T44 l0 x3_1).f2.f3) ((rd_T44 l0 x3_1).f2.f4) true _ A4.out).mono ?_
        rintro e w14 ⟨rfl,hb⟩
        refine ⟨_,rfl,?_⟩
        have n0_:=a_ (bS_ (bel_) hb)
        clear HB
        have HB:=n0_
        clear n0_
        (try clear hb)
        (try clear hb2)
        (try clear hk)
        (try clear hi)
        have q15:(x3_1:Int)≤((l0.length:Int):Int):=od_
        obtain ⟨i015,hi015,_,hsz15,_⟩:=info_parts info44
        have hroom15:l0.length≤c0:=HC0.out
        have hC15:Kd.C k44 _ (some ad425) l0.length l0:=HR0.out
        have hcut15:=cut_to (P:=Tryd.prog) 23 44 .i64 Tryd.underlying23 hi015 (some ad425) l0.length c0 x3_1 (od_) q15 hroom15
        have hr15:=Kd.C_take (m:=(x3_1:Int).toNat) hC15 (by omega)
        have hy15:y428.length=(x3_1:Int).toNat:=(by rw [Ny428.out,List.length_take];omega)
        rw [←Ny428.out] at hr15
        rw [←hy15] at hcut15
        have HR431:=a_ hr15
        have HC431:=a_ (show y428.length≤c0 from by omega)
        clear hr15 hC15 hroom15 hi015 hsz15
        have KY15:=a_ hy15
        clear hy15
        replace q15:=eq_true q15
        refine hK.out _ _ ⟨((cb_ HB.out hw425_0 :)),((cb_ HB.out hw425_1 :)),((cb_ HB.out hw425_2 :)),((cb_ HB.out hw425_3 :)),((cb_ HB.out hw425_4 :)),((cb_ HB.out hw425_5 :)),((cb_ HB.out hw425_6 :)),((cb_ HB.out hw427_0 :)),((cb_ HB.out hw427_1 :)),((cb_ HB.out hw427_2 :)),((cb_ HB.out hw427_3 :)),((cb_ HB.out hw427_4 :)),((cb_ HB.out hw427_5 :)),((cb_ HB.out hw427_6 :)),((cb_ HB.out hw432_0 :)),((cb_ HB.out hw432_1 :)),((cb_ HB.out hw432_2 :)),((cb_ HB.out hw432_3 :)),((cb_ HB.out hw432_4 :)),((cb_ HB.out hw432_5 :)),((cb_ HB.out hw432_6 :))⟩ (fun hHeld=>?_)
        clear hK K
        refine no_ 14 ?_
        refine pa_ 5 15 ?_
        refine pa_ 6 16 ?_
        refine pa_ 7 17 ?_
        refine pa_ 8 18 ?_
        refine pa_ 9 19 ?_
        refine pa_ 10 20 ?_
        refine pa_ 12 22 ?_
        refine pa_ 13 23 ?_
        refine pa_ 14 24 ?_
        refine pa_ 15 25 ?_
        refine pa_ 16 26 ?_
        refine pa_ 17 27 ?_
        refine pa_ 18 28 ?_
        refine ta21_ 11 21 hHeld ?_
        refine ta21_ 19 29 hHeld ?_
        refine on_ 20 30 (fun K hK=>?_)
        refine goes_ Tryd.func90 (by kernel_rfl) rfl #[.slice (some ad425) y428.length c0,.int .i64 ((rd_T44 l0 x3_1).f0)] (by rfl) rfl rfl ar_ ?_
        with_reducible refine (spec_l12Seq.calls k1 _ _ y428 ((rd_T44 l0 x3_1).f0) t433 _ ?side1 ?side2 A8.out).mono ?_
        (case side1=>exact cp_ HR431.out)
        (case side2=>exact HC431.out)
        rintro e w' ⟨rfl,⟨nd,rfl⟩⟩
        refine ⟨_,rfl,?_⟩
        refine hK.out _ _ ⟨((cb_ HB.out hw425_0 :)),((cb_ HB.out hw425_1 :)),((cb_ HB.out hw425_2 :)),((cb_ HB.out hw425_3 :)),((cb_ HB.out hw425_4 :)),((cb_ HB.out hw425_5 :)),((cb_ HB.out hw425_6 :)),((cb_ HB.out hw427_0 :)),((cb_ HB.out hw427_1 :)),((cb_ HB.out hw427_2 :)),((cb_ HB.out hw427_3 :)),((cb_ HB.out hw427_4 :)),((cb_ HB.out hw427_5 :)),((cb_ HB.out hw427_6 :)),((cb_ HB.out hw432_0 :)),((cb_ HB.out hw432_1 :)),((cb_ HB.out hw432_2 :)),((cb_ HB.out hw432_3 :)),((cb_ HB.out hw432_4 :)),((cb_ HB.out hw432_5 :)),((cb_ HB.out hw432_6 :))⟩ (fun hHeld=>?_)
        clear hK K
        refine no_ 30 ?_
        refine pa_ 21 31 ?_
        refine pa_ 22 32 ?_
        refine pa_ 23 33 ?_
        refine done_ (done_of HT_.out (by kernel_rfl)) ?_
        try go_wp2
        go_ret
        exact ⟨fi_,bel_⟩
      ·rw [if_neg c7] at H
       exact absurd H (by simp)
     ·replace c5:=Bool.eq_false_iff.mpr c5
      subst c5
      have H1:(some false)=some r:=by rw [if_neg (show ¬ (false=true) by decide)] at H;exact H
      clear H
      have H:=H1
      clear H1
      obtain rfl:=sj_ H
      try go_wp2
      have n0_:=a_ (below_drew1 HB.out)
      clear HB
      have HB:=n0_
      clear n0_
      have p425:0≤(x3_1:Int):=od_
      have q425:x3_1 < (l0.length:Int):=od_
      obtain ⟨ad425,e425,hx425_0,hx425_1,hx425_2,hx425_3,hx425_4,hx425_5,hx425_6⟩:=at_T44 HR0.out x3_1 p425 q425
      have hw425_6:=hx425_6
      have hw425_5:=hx425_5
      have hw425_4:=hx425_4
      have hw425_3:=hx425_3
      have hw425_2:=hx425_2
      have hw425_1:=hx425_1
      have hw425_0:=hx425_0
      cases e425
      replace hx425_0:=(cb_ HB.out hx425_0 :)
      replace hx425_1:=(cb_ HB.out hx425_1 :)
      replace hx425_2:=(cb_ HB.out hx425_2 :)
      replace hx425_3:=(cb_ HB.out hx425_3 :)
      replace hx425_4:=(cb_ HB.out hx425_4 :)
      replace hx425_5:=(cb_ HB.out hx425_5 :)
      replace hx425_6:=(cb_ HB.out hx425_6 :)
      replace p425:=eq_true p425
      replace q425:=eq_true q425
      refine start_ (n:=24) (S:=fun w'=>w'.cell? (ad425.add ((x3_1).toNat * 7))=some (.int .i64 ((rd_T44 l0 x3_1).f0))∧w'.cell? ⟨(ad425.add ((x3_1).toNat * 7)).block,(ad425.add ((x3_1).toNat * 7)).off+1,none⟩=some (.int .i64 ((rd_T44 l0 x3_1).f1))∧w'.cell? ⟨(ad425.add ((x3_1).toNat * 7)).block,(ad425.add ((x3_1).toNat * 7)).off+2,none⟩=some (.int .i64 ((rd_T44 l0 x3_1).f2.f0))∧w'.cell? ⟨(ad425.add ((x3_1).toNat * 7)).block,(ad425.add ((x3_1).toNat * 7)).off+3,none⟩=some (.int .i64 ((rd_T44 l0 x3_1).f2.f1))∧w'.cell? ⟨(ad425.add ((x3_1).toNat * 7)).block,(ad425.add ((x3_1).toNat * 7)).off+4,none⟩=some (.int .i64 ((rd_T44 l0 x3_1).f2.f2))∧w'.cell? ⟨(ad425.add ((x3_1).toNat * 7)).block,(ad425.add ((x3_1).toNat * 7)).off+5,none⟩=some (.int .i64 ((rd_T44 l0 x3_1).f2.f3))∧w'.cell? ⟨(ad425.add ((x3_1).toNat * 7)).block,(ad425.add ((x3_1).toNat * 7)).off+6,none⟩=some (.string ((rd_T44 l0 x3_1).f2.f4))) (ds:=[]) #[false,false,false,false,false,false,false,false,false,false,false,false,false,false,false,false,false,false,false,false,false,false,false,false] (by kernel_rfl) rfl rfl ⟨((cb_ HB.out hw425_0 :)),((cb_ HB.out hw425_1 :)),((cb_ HB.out hw425_2 :)),((cb_ HB.out hw425_3 :)),((cb_ HB.out hw425_4 :)),((cb_ HB.out hw425_5 :)),((cb_ HB.out hw425_6 :))⟩ (fun hHeld=>?_);refine with_tabW spec_LogOk.tab4 spec_LogOk.bits4 (fun HT_ HW_=>?_)
      generalize wr.drew=w16 at HB hx425_0 hx425_1 hx425_2 hx425_3 hx425_4 hx425_5 hx425_6 hHeld ⊢
      refine pa_ 0 10 ?_
      refine pa_ 1 11 ?_
      refine pa_ 2 12 ?_
      refine ta7_ 3 13 hHeld ?_
      refine on_ 4 14 (fun K hK=>?_)
      refine goes_ Tryd.func30 (by kernel_rfl) rfl #[.agg #[.int .i64 ((rd_T44 l0 x3_1).f0),.int .i64 ((rd_T44 l0 x3_1).f1),.int .i64 ((rd_T44 l0 x3_1).f2.f0),.int .i64 ((rd_T44 l0 x3_1).f2.f1),.int .i64 ((rd_T44 l0 x3_1).f2.f2),.int .i64 ((rd_T44 l0 x3_1).f2.f3),.string ((rd_T44 l0 x3_1).f2.f4)]] (by rfl) rfl rfl ar_ ?_
      with_reducible refine (spec_EntryOk.calls k1 ((rd_T44 l0 x3_1).f0) ((rd_T44 l0 x3_1).f1) ((rd_T44 l0 x3_1).f2.f0) ((rd_T44 l0 x3_1).f2.f1) ((rd_T44 l0 x3_1).f2.f2) ((rd_T44 l0 x3_1).f2.f3) ((rd_T44 l0 x3_1).f2.f4) false _ A4.out).mono ?_
      rintro e w17 ⟨rfl,hb⟩
      refine ⟨_,rfl,?_⟩
      have n0_:=a_ (bS_ (bel_) hb)
      clear HB
      have HB:=n0_
      clear n0_
      (try clear hb)
      (try clear hb2)
      (try clear hk)
      (try clear hi)
      refine hK.out _ _ ⟨((cb_ HB.out hw425_0 :)),((cb_ HB.out hw425_1 :)),((cb_ HB.out hw425_2 :)),((cb_ HB.out hw425_3 :)),((cb_ HB.out hw425_4 :)),((cb_ HB.out hw425_5 :)),((cb_ HB.out hw425_6 :))⟩ (fun hHeld=>?_)
      clear hK K
      refine no_ 14 ?_
      refine pa_ 5 15 ?_
      refine pa_ 6 16 ?_
      refine po_ 7 17 ?_
      refine po_ 8 18 ?_
      refine po_ 9 19 ?_
      refine po_ 10 20 ?_
      refine po_ 11 21 ?_
      refine po_ 12 22 ?_
      refine po_ 13 23 ?_
      refine po_ 14 24 ?_
      refine po_ 15 25 ?_
      refine po_ 16 26 ?_
      refine po_ 17 27 ?_
      refine po_ 18 28 ?_
      refine po_ 19 29 ?_
      refine po_ 20 30 ?_
      refine po_ 21 31 ?_
      refine po_ 22 32 ?_
      refine pa_ 23 33 ?_
      refine done_ (done_of HT_.out (by kernel_rfl)) ?_
      try go_wp2
      go_ret
      exact ⟨fi_,bel_⟩
    ·rw [if_neg c3] at H
     exact absurd H (by simp)
   ·rw [if_neg c2] at H
    have c2b0:decide (x3_1 < (l0.length:Int))=false:=df_ c2
    clear c2
    obtain rfl:=sj_ H
    go_wp2
    go_ret
    exact ⟨fi_,bel_⟩

attribute [local go_sem high] eqA44
def spec_ServerOk.f (k:Nat) (l0_0:List (S44)) (a0_1:Int) (a0_2:Bool):Option (Bool):=(spec_LogOk.f k l0_0).bind fun t435=>(if t435=true then ((spec_l6In.f a0_1 0 (l0_0.length:Int)).bind fun t436=>(some t436)) else (some false))
theorem spec_ServerOk.mono:∀ a0 a1 a2 k,LeO (spec_ServerOk.f k a0 a1 a2) (spec_ServerOk.f (k+1) a0 a1 a2):=by
 intro a0 a1 a2 k
 unfold spec_ServerOk.f
 repeat' first
   | (with_reducible exact spec_LogOk.mono _ _)
   | (with_reducible exact LeO.refl _)
   | (with_reducible exact LeO.none _)
   | (with_reducible refine LeO.ite ?_ ?_)
   | (with_reducible refine LeO.bind ?_ (fun _=>?_))
   | exact spec_LogOk.mono _ _
   | exact LeO.none _
   | refine LeO.ite ?_ ?_
   | refine LeO.bind ?_ (fun _=>?_)
theorem spec_ServerOk.calls (k:Nat) (A0_0:Option Addr) (c0_0:Nat) (l0_0:List (S44)) (a0_1:Int) (a0_2:Bool) (r:Bool) (w:World) (hr0_0:Kd.C k44 w A0_0 l0_0.length l0_0) (hc0_0:l0_0.length≤c0_0) (h:spec_ServerOk.f k l0_0 a0_1 a0_2=some r) :
  Calls Tryd.prog 17 #[.agg #[.slice A0_0 l0_0.length c0_0,.int .i64 a0_1,.bool a0_2]] w fun e w'=>e=.returned (.bool r)∧Below w.heap.size w w':=by
 have hu25:=Tryd.underlying25
 have HR0_0:=a_ hr0_0
 have HC0_0:=a_ hc0_0
 clear hr0_0 hc0_0
 have HB:=a_ (Below.refl w.heap.size w)
 unfold spec_ServerOk.f at h
 have H:=h
 clear h
 replace H:=bs_ H
 obtain ⟨t435,A20,H⟩:=H
 try dsimp only at H
 have A2:=a_ A20
 clear A20
 by_cases c3:t435=true
 ·subst c3
  have H1:((spec_l6In.f a0_1 0 (l0_0.length:Int)).bind fun t436=>(some t436))=some r:=by rw [if_pos rfl] at H;exact H
  clear H
  have H:=H1
  clear H1
  replace H:=bs_ H
  obtain ⟨t436,A40,H⟩:=H
  try dsimp only at H
  have A4:=a_ A40
  clear A40
  obtain rfl:=sj_ H
  go_enter Tryd.func17,Tryd.ntmps17
  go_wp2_with (first|((with_reducible refine gD_ (N:=1) rfl ?_);refine bx_ 1 (#[.slice A0_0 l0_0.length c0_0,.int .i64 a0_1,.bool a0_2]) 25 ?_;intro gb434 hg w5 hbox hb;have n0_:=a_ (bS_ (bel_) hb);have n1_:=a_ (hbox);have n2_:=a_ ((by rw [hg];exact (below_size (bel_)):w.heap.size≤gb434));have n3_:=a_ ((by rw [hg];exact (below_size (bel_)):w.heap.size≤gb434));clear HB;have HB:=n0_;have BK434:=n1_;have GW434:=n2_;have GE434:=n3_;clear n0_ n1_ n2_ n3_;clear hb hbox hg;have Z6_0:=cz_ BK434.out 0 (.slice A0_0 l0_0.length c0_0);have Z6_1:=cz_ BK434.out 1 (.int .i64 a0_1);have Z6_2:=cz_ BK434.out 2 (.bool a0_2);have Y6_0:=bF_ BK434.out 0;have Y6_1:=bF_ BK434.out 1;have Y6_2:=bF_ BK434.out 2)|((with_reducible refine gC_ (f:=43) rfl ?_);refine gl_ 5 Tryd.func43 #[.slice A0_0 l0_0.length c0_0] ?_;(with_reducible refine (spec_LogOk.calls k _ _ l0_0 true _ ?side1 ?side2 A2.out).mono ?_);(case side1=>exact cp_ HR0_0.out);(case side2=>exact HC0_0.out);rintro e w7 ⟨rfl,hb⟩;refine ⟨_,rfl,?_⟩;replace HB:=a_ (bS_ (bel_) hb);replace BK434:=a_ (bb_ BK434.out hb);(try clear hb);have Z8_0:=cz_ BK434.out 0 (.slice A0_0 l0_0.length c0_0);have Z8_1:=cz_ BK434.out 1 (.int .i64 a0_1);have Z8_2:=cz_ BK434.out 2 (.bool a0_2);have Y8_0:=bF_ BK434.out 0;have Y8_1:=bF_ BK434.out 1;have Y8_2:=bF_ BK434.out 2)|(go_at_call 75;(with_reducible refine (spec_l6In.calls a0_1 0 (l0_0.length:Int) t436 _ A4.out).mono ?_);rintro e w' ⟨rfl,⟨nd,rfl⟩⟩))
  go_ret
  exact ⟨fi_,bel_⟩
 ·replace c3:=Bool.eq_false_iff.mpr c3
  subst c3
  have H1:(some false)=some r:=by rw [if_neg (show ¬ (false=true) by decide)] at H;exact H
  clear H
  have H:=H1
  clear H1
  obtain rfl:=sj_ H
  go_enter Tryd.func17,Tryd.ntmps17
  go_wp2_with (first|((with_reducible refine gD_ (N:=1) rfl ?_);refine bx_ 1 (#[.slice A0_0 l0_0.length c0_0,.int .i64 a0_1,.bool a0_2]) 25 ?_;intro gb434 hg w9 hbox hb;have n0_:=a_ (bS_ (bel_) hb);have n1_:=a_ (hbox);have n2_:=a_ ((by rw [hg];exact (below_size (bel_)):w.heap.size≤gb434));have n3_:=a_ ((by rw [hg];exact (below_size (bel_)):w.heap.size≤gb434));clear HB;have HB:=n0_;have BK434:=n1_;have GW434:=n2_;have GE434:=n3_;clear n0_ n1_ n2_ n3_;clear hb hbox hg;have Z10_0:=cz_ BK434.out 0 (.slice A0_0 l0_0.length c0_0);have Z10_1:=cz_ BK434.out 1 (.int .i64 a0_1);have Z10_2:=cz_ BK434.out 2 (.bool a0_2);have Y10_0:=bF_ BK434.out 0;have Y10_1:=bF_ BK434.out 1;have Y10_2:=bF_ BK434.out 2)|((with_reducible refine gC_ (f:=43) rfl ?_);refine gl_ 5 Tryd.func43 #[.slice A0_0 l0_0.length c0_0] ?_;(with_reducible refine (spec_LogOk.calls k _ _ l0_0 false _ ?side1 ?side2 A2.out).mono ?_);(case side1=>exact cp_ HR0_0.out);(case side2=>exact HC0_0.out);rintro e w11 ⟨rfl,hb⟩;refine ⟨_,rfl,?_⟩;replace HB:=a_ (bS_ (bel_) hb);replace BK434:=a_ (bb_ BK434.out hb);(try clear hb)))
  go_ret
  exact ⟨fi_,bel_⟩

def impl_ServerNew.f  : Option ((List (S44))×Int×Bool):=some (([]:List (S44)),0,true)
theorem impl_ServerNew.calls  (r1:List (S44)) (r2:Int) (r3:Bool) (w:World) (h:impl_ServerNew.f  = some (r1,r2,r3)) :
  Calls Tryd.prog 18 #[] w fun e w'=>∃ v0_:Value,e=.returned (.agg #[v0_,.int .i64 r2,.bool r3])∧Kd.R k44 44 w' w.heap.size (fun _=>True) v0_ r1∧Below w.heap.size w w':=by
 have hu25:=Tryd.underlying25
 have HB:=a_ (Below.refl w.heap.size w)
 unfold impl_ServerNew.f at h
 have H:=h
 clear h
 simp only [Option.some.injEq,Prod.mk.injEq] at H
 obtain ⟨rfl,rfl,rfl⟩:=H
 go_enter Tryd.func18,Tryd.ntmps18
 go_wp2_with (first|((with_reducible refine gD_ (N:=0) rfl ?_);refine bx_ 0 (#[.slice none 0 0,.int .i64 0,.bool false]) 25 ?_;intro gb437 hg w1 hbox hb;have n0_:=a_ (bS_ (bel_) hb);have n1_:=a_ (hbox);have n2_:=a_ ((by rw [hg];exact (below_size (bel_)):w.heap.size≤gb437));have n3_:=a_ ((by rw [hg];exact (below_size (bel_)):w.heap.size≤gb437));clear HB;have HB:=n0_;have BK437:=n1_;have GW437:=n2_;have GE437:=n3_;clear n0_ n1_ n2_ n3_;clear hb hbox hg;have Z2_0:=cz_ BK437.out 0 (.slice none 0 0);have Z2_1:=cz_ BK437.out 1 (.int .i64 0);have Z2_2:=cz_ BK437.out 2 (.bool false);have Y2_0:=bF_ BK437.out 0;have Y2_1:=bF_ BK437.out 1;have Y2_2:=bF_ BK437.out 2))
 refine bodyPost_ret (results_cell_row rfl _ _ gb437 25 #[.slice none 0 0,.int .i64 0,.bool true] (0,0) _ rfl (by (with_reducible repeat (first|refine bN_ ?_ _|refine bD_ ?_|refine bA_ ?_ _));refine blk_put (cs:=#[.slice none 0 0,.int .i64 0,.bool false]) ?_ 2 _ rfl;(with_reducible repeat (first|refine bN_ ?_ _|refine bD_ ?_|refine bA_ ?_ _));refine blk_put (cs:=#[.slice none 0 0,.int .i64 0,.bool false]) ?_ 1 _ rfl;(with_reducible repeat (first|refine bN_ ?_ _|refine bD_ ?_|refine bA_ ?_ _));refine blk_put (cs:=#[.slice none 0 0,.int .i64 0,.bool false]) ?_ 0 _ rfl;(with_reducible repeat (first|refine bN_ ?_ _|refine bD_ ?_|refine bA_ ?_ _));exact BK437.out) Tryd.underlying25 rfl (by kernel_rfl)) rfl ?_
 exact ⟨_,fi_,by first|exact Kd.R_nil _ _ _ _ _|exact Kd.N_nil _ _ _ _ _|exact Kd.V_nil _ _ _ _ _|exact Kd.Q_nil _ _ _ _ _|exact Kd.S_nil _ _ _ _ _,bel_⟩


theorem eqA69 (d:Nat) (w:World) (x0 y0:Int) (x1 y1:Int) (x2 y2:ByteArray) :
  (Op.equalIn (d+2) 69 (.agg #[.int .i64 x0,.int .i64 x1,.string x2]) (.agg #[.int .i64 y0,.int .i64 y1,.string y2])).run Tryd.prog w=.ok (x0==y0&&(x1==y1&&(x2.toList==y2.toList))) w:=by
 refine eqA_of Tryd.underlying69 (by kernel_rfl) ?_
 refine eqf_cons (by rfl) (by go_simp;rfl) (by go_simp;rfl) (by go_simp) ?_
 refine eqf_cons (by rfl) (by go_simp;rfl) (by go_simp;rfl) (by go_simp) ?_
 exact eqf_last (by rfl) (by go_simp;rfl) (by go_simp;rfl) (by go_simp)
def laws_FnServerForm.f (k:Nat) (l0:List Int):Option (Bool):=if (l0.length:Int) > 1048576 then (some true) else ((spec_DrawServerOk.f k l0).bind fun bt438=>((impl_ServerOk.f k bt438.1 bt438.2.1 bt438.2.2).bind fun t444=>((spec_ServerOk.f k bt438.1 bt438.2.1 bt438.2.2).bind fun t445=>(if (t444 != t445)=true then (none) else (if t444=true then ((impl_ServerOk.f k bt438.1 (wrap64 ((bt438.1.length:Int)+1)) bt438.2.2).bind fun t450=>(if t450=true then (none) else ((impl_ServerOk.f k bt438.1 (-1) bt438.2.2).bind fun t451=>(if t451=true then (none) else (if 0≤bt438.2.1 then (if bt438.2.1≤(bt438.1.length:Int) then ((impl_ServerOk.f k (bt438.1.take (bt438.2.1:Int).toNat) bt438.2.1 bt438.2.2).bind fun t452=>(if t452=true then ((impl_ServerOk.f k ([]:List (S44)) 0 true).bind fun t453=>(some t453)) else (none))) else (none)) else (none)))))) else ((spec_ServerOk.f k bt438.1 bt438.2.1 bt438.2.2).bind fun t446=>(some (t444==t446))))))))
theorem laws_FnServerForm.mono:∀ a0 k,LeO (laws_FnServerForm.f k a0) (laws_FnServerForm.f (k+1) a0):=by
 intro a0 k
 unfold laws_FnServerForm.f
 repeat' first
   | (with_reducible exact impl_ServerOk.mono _ _ _ _)
   | (with_reducible exact spec_DrawServerOk.mono _ _)
   | (with_reducible exact spec_ServerOk.mono _ _ _ _)
   | (with_reducible exact LeO.refl _)
   | (with_reducible exact LeO.none _)
   | (with_reducible refine LeO.ite ?_ ?_)
   | (with_reducible refine LeO.bind ?_ (fun _=>?_))
   | exact impl_ServerOk.mono _ _ _ _
   | exact spec_DrawServerOk.mono _ _
   | exact spec_ServerOk.mono _ _ _ _
   | exact LeO.none _
   | refine LeO.ite ?_ ?_
   | refine LeO.bind ?_ (fun _=>?_)
theorem laws_FnServerForm.calls (k:Nat) (A0:Option Addr) (c0:Nat) (l0:List Int) (r:Bool) (w:World) (hr0:Kd.C (Kd.int .u8) w A0 l0.length l0) (hc0:l0.length≤c0) (h:laws_FnServerForm.f k l0=some r) (hG:Glob w) :
  Calls Tryd.prog 3 #[.slice A0 l0.length c0] w fun e w'=>e=.returned (.bool r)∧Below w.heap.size w w':=by
 have hu25:=Tryd.underlying25
 have HR0:=a_ hr0
 have HC0:=a_ hc0
 clear hr0 hc0
 have HB:=a_ (Below.refl w.heap.size w)
 have HG:=a_ hG
 clear hG
 have H:(if (l0.length:Int) > 1048576 then (some true) else ((spec_DrawServerOk.f k l0).bind fun bt438=>((impl_ServerOk.f k bt438.1 bt438.2.1 bt438.2.2).bind fun t444=>((spec_ServerOk.f k bt438.1 bt438.2.1 bt438.2.2).bind fun t445=>(if (t444 != t445)=true then (none) else (if t444=true then ((impl_ServerOk.f k bt438.1 (wrap64 ((bt438.1.length:Int)+1)) bt438.2.2).bind fun t450=>(if t450=true then (none) else ((impl_ServerOk.f k bt438.1 (-1) bt438.2.2).bind fun t451=>(if t451=true then (none) else (if 0≤bt438.2.1 then (if bt438.2.1≤(bt438.1.length:Int) then ((impl_ServerOk.f k (bt438.1.take (bt438.2.1:Int).toNat) bt438.2.1 bt438.2.2).bind fun t452=>(if t452=true then ((impl_ServerOk.f k ([]:List (S44)) 0 true).bind fun t453=>(some t453)) else (none))) else (none)) else (none)))))) else ((spec_ServerOk.f k bt438.1 bt438.2.1 bt438.2.2).bind fun t446=>(some (t444==t446)))))))))=some r:=h
 clear h
 by_cases c2:(l0.length:Int) > 1048576
 ·rw [if_pos c2] at H
  have c2b0:decide (1048576 < (l0.length:Int))=true:=dt_ c2
  have c2b1:decide (1048576 < l0.length)=true:=dt_ (by omega)
  clear c2
  obtain rfl:=sj_ H
  go_enter Tryd.func3,Tryd.ntmps3
  go_wp2
  go_ret
  exact ⟨by first|rfl|(simp [errW_none,errW_some] <;> rfl)|(simp [*,errW_none,errW_some] <;> rfl),by repeat (first|(with_reducible first|exact HB.out|apply wA_|apply pw_below_drewN|apply below_drew1)|exact HB.out)⟩
 ·rw [if_neg c2] at H
  have c2b0:decide (1048576 < (l0.length:Int))=false:=df_ c2
  have c2b1:decide (1048576 < l0.length)=false:=df_ (by omega)
  clear c2
  replace H:=bs_ H
  obtain ⟨⟨t438,t441,t442⟩,A30,H⟩:=H
  replace H:((impl_ServerOk.f k t438 t441 t442).bind fun t444=>((spec_ServerOk.f k t438 t441 t442).bind fun t445=>(if (t444 != t445)=true then (none) else (if t444=true then ((impl_ServerOk.f k t438 (wrap64 ((t438.length:Int)+1)) t442).bind fun t450=>(if t450=true then (none) else ((impl_ServerOk.f k t438 (-1) t442).bind fun t451=>(if t451=true then (none) else (if 0≤t441 then (if t441≤(t438.length:Int) then ((impl_ServerOk.f k (t438.take (t441:Int).toNat) t441 t442).bind fun t452=>(if t452=true then ((impl_ServerOk.f k ([]:List (S44)) 0 true).bind fun t453=>(some t453)) else (none))) else (none)) else (none)))))) else ((spec_ServerOk.f k t438 t441 t442).bind fun t446=>(some (t444==t446)))))))=some r:=H
  have A3:=a_ A30
  clear A30
  replace H:=bs_ H
  obtain ⟨t444,A40,H⟩:=H
  replace H:((spec_ServerOk.f k t438 t441 t442).bind fun t445=>(if (t444 != t445)=true then (none) else (if t444=true then ((impl_ServerOk.f k t438 (wrap64 ((t438.length:Int)+1)) t442).bind fun t450=>(if t450=true then (none) else ((impl_ServerOk.f k t438 (-1) t442).bind fun t451=>(if t451=true then (none) else (if 0≤t441 then (if t441≤(t438.length:Int) then ((impl_ServerOk.f k (t438.take (t441:Int).toNat) t441 t442).bind fun t452=>(if t452=true then ((impl_ServerOk.f k ([]:List (S44)) 0 true).bind fun t453=>(some t453)) else (none))) else (none)) else (none)))))) else ((spec_ServerOk.f k t438 t441 t442).bind fun t446=>(some (t444==t446))))))=some r:=H
  have A4:=a_ A40
  clear A40
  replace H:=bs_ H
  obtain ⟨t445,A50,H⟩:=H
  replace H:(if (t444 != t445)=true then (none) else (if t444=true then ((impl_ServerOk.f k t438 (wrap64 ((t438.length:Int)+1)) t442).bind fun t450=>(if t450=true then (none) else ((impl_ServerOk.f k t438 (-1) t442).bind fun t451=>(if t451=true then (none) else (if 0≤t441 then (if t441≤(t438.length:Int) then ((impl_ServerOk.f k (t438.take (t441:Int).toNat) t441 t442).bind fun t452=>(if t452=true then ((impl_ServerOk.f k ([]:List (S44)) 0 true).bind fun t453=>(some t453)) else (none))) else (none)) else (none)))))) else ((spec_ServerOk.f k t438 t441 t442).bind fun t446=>(some (t444==t446)))))=some r:=H
  have A5:=a_ A50
  clear A50
  by_cases c6:(t444 != t445)=true
  ·rw [if_pos c6] at H
   exact absurd H (by simp)
  ·rw [if_neg c6] at H
   have c6b0:(t444 != t445)=false:=by simpa using c6
   (try (have c6b1:decide (t444=t445)=true:=by simpa using c6))
   (try (have c6b2:(t444==t445)=true:=by simpa using c6))
   clear c6
   by_cases c7:t444=true
   ·subst c7
    have H1:((impl_ServerOk.f k t438 (wrap64 ((t438.length:Int)+1)) t442).bind fun t450=>(if t450=true then (none) else ((impl_ServerOk.f k t438 (-1) t442).bind fun t451=>(if t451=true then (none) else (if 0≤t441 then (if t441≤(t438.length:Int) then ((impl_ServerOk.f k (t438.take (t441:Int).toNat) t441 t442).bind fun t452=>(if t452=true then ((impl_ServerOk.f k ([]:List (S44)) 0 true).bind fun t453=>(some t453)) else (none))) else (none)) else (none))))))=some r:=by rw [if_pos rfl] at H;exact H
    clear H
    have H:=H1
    clear H1
    replace H:=bs_ H
    obtain ⟨t450,A80,H⟩:=H
    replace H:(if t450=true then (none) else ((impl_ServerOk.f k t438 (-1) t442).bind fun t451=>(if t451=true then (none) else (if 0≤t441 then (if t441≤(t438.length:Int) then ((impl_ServerOk.f k (t438.take (t441:Int).toNat) t441 t442).bind fun t452=>(if t452=true then ((impl_ServerOk.f k ([]:List (S44)) 0 true).bind fun t453=>(some t453)) else (none))) else (none)) else (none)))))=some r:=H
    have A8:=a_ A80
    clear A80
    by_cases c9:t450=true
    ·subst c9
     have H1:(none)=some r:=by rw [if_pos rfl] at H;exact H
     clear H
     have H:=H1
     clear H1
     exact absurd H (by simp)
    ·replace c9:=Bool.eq_false_iff.mpr c9
     subst c9
     have H1:((impl_ServerOk.f k t438 (-1) t442).bind fun t451=>(if t451=true then (none) else (if 0≤t441 then (if t441≤(t438.length:Int) then ((impl_ServerOk.f k (t438.take (t441:Int).toNat) t441 t442).bind fun t452=>(if t452=true then ((impl_ServerOk.f k ([]:List (S44)) 0 true).bind fun t453=>(some t453)) else (none))) else (none)) else (none))))=some r:=by rw [if_neg (show ¬ (false=true) by decide)] at H;exact H
     clear H
     have H:=H1
     clear H1
     replace H:=bs_ H
     obtain ⟨t451,A100,H⟩:=H
     replace H:(if t451=true then (none) else (if 0≤t441 then (if t441≤(t438.length:Int) then ((impl_ServerOk.f k (t438.take (t441:Int).toNat) t441 t442).bind fun t452=>(if t452=true then ((impl_ServerOk.f k ([]:List (S44)) 0 true).bind fun t453=>(some t453)) else (none))) else (none)) else (none)))=some r:=H
     have A10:=a_ A100
     clear A100
     by_cases c11:t451=true
     ·subst c11
      have H1:(none)=some r:=by rw [if_pos rfl] at H;exact H
      clear H
      have H:=H1
      clear H1
      exact absurd H (by simp)
     ·replace c11:=Bool.eq_false_iff.mpr c11
      subst c11
      have H1:(if 0≤t441 then (if t441≤(t438.length:Int) then ((impl_ServerOk.f k (t438.take (t441:Int).toNat) t441 t442).bind fun t452=>(if t452=true then ((impl_ServerOk.f k ([]:List (S44)) 0 true).bind fun t453=>(some t453)) else (none))) else (none)) else (none))=some r:=by rw [if_neg (show ¬ (false=true) by decide)] at H;exact H
      clear H
      have H:=H1
      clear H1
      have hd1:0≤t441:=Decidable.byContradiction fun hc_=>by rw [if_neg hc_] at H;exact absurd H (by simp)
      rw [if_pos hd1] at H
      have hd2:t441≤(t438.length:Int):=Decidable.byContradiction fun hc_=>by rw [if_neg hc_] at H;exact absurd H (by simp)
      rw [if_pos hd2] at H
      obtain ⟨y996,hy996⟩:∃ y_:List (S44),y_=(t438.take (t441:Int).toNat):=⟨_,rfl⟩
      rw [←hy996] at H
      have Ny996:=a_ hy996
      clear hy996
      have KY38:Aside0 (y996.length=(t441:Int).toNat):=⟨by rw [Ny996.out,List.length_take];omega⟩
      obtain ⟨yN,hyN⟩:∃ y_:List (S44),y_=[]:=⟨_,rfl⟩
      have NyN:=a_ hyN
      have HN_:Aside0 (impl_ServerNew.f=some (yN,0,true)):=⟨by rw [hyN];rfl⟩
      clear hyN
      have HD1:=a_ hd1
      have HD2:=a_ hd2
      clear hd1 hd2
      replace H:=bs_ H
      obtain ⟨t452,A120,H⟩:=H
      replace H:(if t452=true then ((impl_ServerOk.f k ([]:List (S44)) 0 true).bind fun t453=>(some t453)) else (none))=some r:=H
      have A12:=a_ A120
      clear A120
      by_cases c13:t452=true
      ·subst c13
       have H1:((impl_ServerOk.f k ([]:List (S44)) 0 true).bind fun t453=>(some t453))=some r:=by rw [if_pos rfl] at H;exact H
       clear H
       have H:=H1
       clear H1
       replace H:=bs_ H
       obtain ⟨t453,A140,H⟩:=H
       replace H:(some t453)=some r:=H
       have A14:=a_ (show impl_ServerOk.f k yN 0 true=some t453 from by rw [NyN.out];exact A140)
       clear A140
       obtain rfl:=sj_ H
       go_enter Tryd.func3,Tryd.ntmps3
       go_wp2_with (first|((with_reducible refine gC_ (f:=15) rfl ?_);refine goesL_ (some 12) rfl rfl Tryd.func15 (by kernel_rfl) rfl #[.slice A0 l0.length c0] rfl (by (try simp only [List.map_toArray,List.map_cons,List.map_nil]);first|done|rfl|(simp only [List.length_drop,List.length_take];rfl)) ?_;(with_reducible refine (spec_DrawServerOk.calls k _ _ l0 t438 t441 t442 _ ?side1 ?side2 A3.out).mono ?_);(case side1=>repeat (first|exact HR0.out|(with_reducible refine Kd.C_alloc ?_ _)|(with_reducible refine Kd.C_drewN ?_ _)|(with_reducible refine Kd.C_drew ?_)));(case side2=>exact HC0.out);rintro e w15 ⟨v439,rfl,ho0,hb⟩;refine ⟨_,rfl,?_⟩;have n0_:=a_ (Kd.R_lower ho0 (below_size (by repeat (first|(with_reducible first|exact HB.out|apply wA_|apply pw_below_drewN|apply below_drew1)|exact HB.out))));have n1_:=a_ (bS_ (by repeat (first|(with_reducible first|exact HB.out|apply wA_|apply pw_below_drewN|apply below_drew1)|exact HB.out)) hb);clear HB;have HO440:=n0_;have HB:=n1_;clear n0_ n1_;(try clear hb);(try clear hb2);(try clear hk);(try clear hi);(try clear ho0))|((with_reducible refine gD_ (N:=3) rfl ?_);refine box_event ?hg (N:=3) ?hd (cs:=#[.slice none 0 0,.int .i64 0,.bool false]) (t:=25) ?hr ?_;(case hd=>rfl);(case hg=>rfl);(case hr=>first|(go_simp;done)|(go_simp;rfl));intro gb443 hg w16 hbox hb;have n0_:=a_ (Kd.R_below (by (with_reducible repeat (first|apply Kd.R_alloc|apply Kd.R_drewN|apply Kd.R_drew));exact HO440.out) hb);have n1_:=a_ (bS_ (by repeat (first|(with_reducible first|exact HB.out|apply wA_|apply pw_below_drewN|apply below_drew1)|exact HB.out)) hb);have n2_:=a_ (hbox);have n3_:=a_ ((by rw [hg];exact (below_size (by repeat (first|(with_reducible first|exact HB.out|apply wA_|apply pw_below_drewN|apply below_drew1)|exact HB.out))):w.heap.size≤gb443));have n4_:=a_ ((by rw [hg];exact (below_size (by repeat (first|(with_reducible first|exact HB.out|apply wA_|apply pw_below_drewN|apply below_drew1)|exact HB.out))):w.heap.size≤gb443));clear HO440;clear HB;have HO440:=n0_;have HB:=n1_;have BK443:=n2_;have GW443:=n3_;have GE443:=n4_;clear n0_ n1_ n2_ n3_ n4_;clear hb hbox hg;obtain ⟨Ao17,co17,eo17⟩:=Kd.R_slice HO440.out;subst eo17;have Z18_0:w16.cell? ⟨gb443,0,none⟩=some (.slice none 0 0):=(bC_ BK443.out 0).trans rfl;have Z18_1:w16.cell? ⟨gb443,1,none⟩=some (.int .i64 0):=(bC_ BK443.out 1).trans rfl;have Z18_2:w16.cell? ⟨gb443,2,none⟩=some (.bool false):=(bC_ BK443.out 2).trans rfl;have Y18_0:=bF_ BK443.out 0;have Y18_1:=bF_ BK443.out 1;have Y18_2:=bF_ BK443.out 2)|((with_reducible refine gC_ (f:=16) rfl ?_);refine goesL_ (some 14) rfl rfl Tryd.func16 (by kernel_rfl) rfl #[.agg #[.slice Ao17 t438.length co17,.int .i64 t441,.bool t442]] rfl (by (try simp only [List.map_toArray,List.map_cons,List.map_nil]);first|done|rfl|(simp only [List.length_drop,List.length_take];rfl)) ?_;(with_reducible refine (impl_ServerOk.calls k _ _ t438 t441 t442 true _ ?side1 ?side2 A4.out ?side3).mono ?_);(case side1=>refine (Kd.R_reads' (e:=44) (base:=w.heap.size) (ok:=fun k_=>True) (n:=t438.length) (c:=co17) ?_).2.2;exact (by (with_reducible repeat (first|apply Kd.R_alloc|apply Kd.R_drewN|apply Kd.R_drew));exact (Kd.R_mono (Kd.R_far (p:=⟨gb443,2,none⟩) (Kd.R_far (p:=⟨gb443,1,none⟩) (Kd.R_far (p:=⟨gb443,0,none⟩) (Kd.R_types HO440.out BK443.out (by decide)) (fun _ hk=>hk.2) (.slice Ao17 t438.length co17)) (fun _ hk=>hk.2) (.int .i64 t441)) (fun _ hk=>hk.2) (.bool t442)) (fun _ h_=>h_.1))));(case side2=>exact (Kd.R_reads' HO440.out).2.1);(case side3=>exact Glob.below HG.out (by repeat (first|(with_reducible first|exact HB.out|apply wA_|apply pw_below_drewN|apply below_drew1|refine wS_ ?_ GE443.out)|exact HB.out)));rintro e w19 ⟨rfl,hb⟩;refine ⟨_,rfl,?_⟩;have n0_:=a_ (Kd.R_below (by (with_reducible repeat (first|apply Kd.R_alloc|apply Kd.R_drewN|apply Kd.R_drew));exact (Kd.R_mono (Kd.R_far (p:=⟨gb443,2,none⟩) (Kd.R_far (p:=⟨gb443,1,none⟩) (Kd.R_far (p:=⟨gb443,0,none⟩) (Kd.R_types HO440.out BK443.out (by decide)) (fun _ hk=>hk.2) (.slice Ao17 t438.length co17)) (fun _ hk=>hk.2) (.int .i64 t441)) (fun _ hk=>hk.2) (.bool t442)) (fun _ h_=>h_.1))) hb);have n1_:=a_ (blk_below (g:=gb443) (o:=.cells #[.slice Ao17 t438.length co17,.int .i64 t441,.bool t442] 25 (0,0)) (by (with_reducible repeat (first|refine bN_ ?_ _|refine bD_ ?_|refine bA_ ?_ _));refine blk_put (cs:=#[.slice Ao17 t438.length co17,.int .i64 t441,.bool false]) ?_ 2 _ rfl;(with_reducible repeat (first|refine bN_ ?_ _|refine bD_ ?_|refine bA_ ?_ _));refine blk_put (cs:=#[.slice Ao17 t438.length co17,.int .i64 0,.bool false]) ?_ 1 _ rfl;(with_reducible repeat (first|refine bN_ ?_ _|refine bD_ ?_|refine bA_ ?_ _));refine blk_put (cs:=#[.slice none 0 0,.int .i64 0,.bool false]) ?_ 0 _ rfl;(with_reducible repeat (first|refine bN_ ?_ _|refine bD_ ?_|refine bA_ ?_ _));exact BK443.out) hb);have n2_:=a_ (bS_ (by repeat (first|(with_reducible first|exact HB.out|apply wA_|apply pw_below_drewN|apply below_drew1|refine wS_ ?_ GE443.out)|exact HB.out)) hb);clear HO440;clear BK443;clear HB;have HO440:=n0_;have BK443:=n1_;have HB:=n2_;clear n0_ n1_ n2_;(try clear hb);(try clear hb2);(try clear hk);(try clear hi);have Z20_0:w19.cell? ⟨gb443,0,none⟩=some (.slice Ao17 t438.length co17):=(bC_ BK443.out 0).trans rfl;have Z20_1:w19.cell? ⟨gb443,1,none⟩=some (.int .i64 t441):=(bC_ BK443.out 1).trans rfl;have Z20_2:w19.cell? ⟨gb443,2,none⟩=some (.bool t442):=(bC_ BK443.out 2).trans rfl;have Y20_0:=bF_ BK443.out 0;have Y20_1:=bF_ BK443.out 1;have Y20_2:=bF_ BK443.out 2)|((with_reducible refine gC_ (f:=17) rfl ?_);refine goesL_ (some 17) rfl rfl Tryd.func17 (by kernel_rfl) rfl #[.agg #[.slice Ao17 t438.length co17,.int .i64 t441,.bool t442]] rfl (by (try simp only [List.map_toArray,List.map_cons,List.map_nil]);first|done|rfl|(simp only [List.length_drop,List.length_take];rfl)) ?_;(with_reducible refine (spec_ServerOk.calls k _ _ t438 t441 t442 t445 _ ?side1 ?side2 A5.out).mono ?_);(case side1=>repeat (first|exact (Kd.R_reads' HO440.out).2.2|(with_reducible refine Kd.C_alloc ?_ _)|(with_reducible refine Kd.C_drewN ?_ _)|(with_reducible refine Kd.C_drew ?_)));(case side2=>exact (Kd.R_reads' HO440.out).2.1);rintro e w21 ⟨rfl,hb⟩;refine ⟨_,rfl,?_⟩;have n0_:=a_ (Kd.R_below (by (with_reducible repeat (first|apply Kd.R_alloc|apply Kd.R_drewN|apply Kd.R_drew));exact HO440.out) hb);have n1_:=a_ (blk_below (g:=gb443) (o:=.cells #[.slice Ao17 t438.length co17,.int .i64 t441,.bool t442] 25 (0,0)) (by (with_reducible repeat (first|refine bN_ ?_ _|refine bD_ ?_|refine bA_ ?_ _));exact BK443.out) hb);have n2_:=a_ (bS_ (by repeat (first|(with_reducible first|exact HB.out|apply wA_|apply pw_below_drewN|apply below_drew1|refine wS_ ?_ GE443.out)|exact HB.out)) hb);clear HO440;clear BK443;clear HB;have HO440:=n0_;have BK443:=n1_;have HB:=n2_;clear n0_ n1_ n2_;(try clear hb);(try clear hb2);(try clear hk);(try clear hi);have Z22_0:w21.cell? ⟨gb443,0,none⟩=some (.slice Ao17 t438.length co17):=(bC_ BK443.out 0).trans rfl;have Z22_1:w21.cell? ⟨gb443,1,none⟩=some (.int .i64 t441):=(bC_ BK443.out 1).trans rfl;have Z22_2:w21.cell? ⟨gb443,2,none⟩=some (.bool t442):=(bC_ BK443.out 2).trans rfl;have Y22_0:=bF_ BK443.out 0;have Y22_1:=bF_ BK443.out 1;have Y22_2:=bF_ BK443.out 2)|((with_reducible refine gD_ (N:=5) rfl ?_);refine box_event ?hg (N:=5) ?hd (cs:=#[.slice none 0 0,.int .i64 0,.bool false]) (t:=25) ?hr ?_;(case hd=>rfl);(case hg=>rfl);(case hr=>first|(go_simp;done)|(go_simp;rfl));intro gb447 hg w23 hbox hb;have n0_:=a_ (Kd.R_below (by (with_reducible repeat (first|apply Kd.R_alloc|apply Kd.R_drewN|apply Kd.R_drew));exact HO440.out) hb);have n1_:=a_ (blk_below (g:=gb443) (o:=.cells #[.slice Ao17 t438.length co17,.int .i64 t441,.bool t442] 25 (0,0)) (by (with_reducible repeat (first|refine bN_ ?_ _|refine bD_ ?_|refine bA_ ?_ _));exact BK443.out) hb);have n2_:=a_ (bS_ (by repeat (first|(with_reducible first|exact HB.out|apply wA_|apply pw_below_drewN|apply below_drew1|refine wS_ ?_ GE443.out)|exact HB.out)) hb);have n3_:=a_ (hbox);have n4_:=a_ ((by rw [hg];exact (below_size (by repeat (first|(with_reducible first|exact HB.out|apply wA_|apply pw_below_drewN|apply below_drew1|refine wS_ ?_ GE443.out)|exact HB.out))):w.heap.size≤gb447));have n5_:=a_ ((by rw [hg];exact (below_size (by repeat (first|(with_reducible first|exact HB.out|apply wA_|apply pw_below_drewN|apply below_drew1|refine wS_ ?_ GE443.out)|exact HB.out))):w.heap.size≤gb447));have n6_:=a_ ((by rw [hg];exact Nat.ne_of_lt (blk_lt (g:=gb443) (o:=.cells #[.slice Ao17 t438.length co17,.int .i64 t441,.bool t442] 25 (0,0)) (by (with_reducible repeat (first|refine bN_ ?_ _|refine bD_ ?_|refine bA_ ?_ _));exact BK443.out)):gb443≠gb447));have n7_:=a_ ((by rw [hg];exact Nat.ne_of_gt (blk_lt (g:=gb443) (o:=.cells #[.slice Ao17 t438.length co17,.int .i64 t441,.bool t442] 25 (0,0)) (by (with_reducible repeat (first|refine bN_ ?_ _|refine bD_ ?_|refine bA_ ?_ _));exact BK443.out)):gb447≠gb443));clear HO440;clear BK443;clear HB;have HO440:=n0_;have BK443:=n1_;have HB:=n2_;have BK447:=n3_;have GW447:=n4_;have GE447:=n5_;have NB443_447:=n6_;have NB447_443:=n7_;clear n0_ n1_ n2_ n3_ n4_ n5_ n6_ n7_;clear hb hbox hg;have hnb24:=NB447_443.out;have hnc24:=NB443_447.out;have Z25_0:w23.cell? ⟨gb447,0,none⟩=some (.slice none 0 0):=(bC_ BK447.out 0).trans rfl;have Z25_1:w23.cell? ⟨gb447,1,none⟩=some (.int .i64 0):=(bC_ BK447.out 1).trans rfl;have Z25_2:w23.cell? ⟨gb447,2,none⟩=some (.bool false):=(bC_ BK447.out 2).trans rfl;have Y25_0:=bF_ BK447.out 0;have Y25_1:=bF_ BK447.out 1;have Y25_2:=bF_ BK447.out 2;have Z26_0:w23.cell? ⟨gb443,0,none⟩=some (.slice Ao17 t438.length co17):=(bC_ BK443.out 0).trans rfl;have Z26_1:w23.cell? ⟨gb443,1,none⟩=some (.int .i64 t441):=(bC_ BK443.out 1).trans rfl;have Z26_2:w23.cell? ⟨gb443,2,none⟩=some (.bool t442):=(bC_ BK443.out 2).trans rfl;have Y26_0:=bF_ BK443.out 0;have Y26_1:=bF_ BK443.out 1;have Y26_2:=bF_ BK443.out 2)|((with_reducible refine gD_ (N:=6) rfl ?_);refine box_event ?hg (N:=6) ?hd (cs:=#[.slice none 0 0,.int .i64 0,.bool false]) (t:=25) ?hr ?_;(case hd=>rfl);(case hg=>rfl);(case hr=>first|(go_simp;done)|(go_simp;rfl));intro gb448 hg w27 hbox hb;have n0_:=a_ (Kd.R_below (by (with_reducible repeat (first|apply Kd.R_alloc|apply Kd.R_drewN|apply Kd.R_drew));exact (Kd.R_mono (Kd.R_far (p:=⟨gb447,1,none⟩) (Kd.R_far (p:=⟨gb447,2,none⟩) (Kd.R_far (p:=⟨gb447,1,none⟩) (Kd.R_far (p:=⟨gb447,0,none⟩) (Kd.R_types HO440.out BK447.out (by decide)) (fun _ hk=>hk.2) (.slice Ao17 t438.length co17)) (fun _ hk=>hk.2) (.int .i64 t441)) (fun _ hk=>hk.2) (.bool t442)) (fun _ hk=>hk.2) (.int .i64 (wrap64 ((t438.length:Int)+1)))) (fun _ h_=>h_.1))) hb);have n1_:=a_ (blk_below (g:=gb443) (o:=.cells #[.slice Ao17 t438.length co17,.int .i64 t441,.bool t442] 25 (0,0)) (by (with_reducible repeat (first|refine bN_ ?_ _|refine bD_ ?_|refine bA_ ?_ _));refine blk_far ?_ NB443_447.out _;(with_reducible repeat (first|refine bN_ ?_ _|refine bD_ ?_|refine bA_ ?_ _));refine blk_far ?_ NB443_447.out _;(with_reducible repeat (first|refine bN_ ?_ _|refine bD_ ?_|refine bA_ ?_ _));refine blk_far ?_ NB443_447.out _;(with_reducible repeat (first|refine bN_ ?_ _|refine bD_ ?_|refine bA_ ?_ _));refine blk_far ?_ NB443_447.out _;(with_reducible repeat (first|refine bN_ ?_ _|refine bD_ ?_|refine bA_ ?_ _));exact BK443.out) hb);have n2_:=a_ (blk_below (g:=gb447) (o:=.cells #[.slice Ao17 t438.length co17,.int .i64 (wrap64 ((t438.length:Int)+1)),.bool t442] 25 (0,0)) (by (with_reducible repeat (first|refine bN_ ?_ _|refine bD_ ?_|refine bA_ ?_ _));refine blk_put (cs:=#[.slice Ao17 t438.length co17,.int .i64 t441,.bool t442]) ?_ 1 _ rfl;(with_reducible repeat (first|refine bN_ ?_ _|refine bD_ ?_|refine bA_ ?_ _));refine blk_put (cs:=#[.slice Ao17 t438.length co17,.int .i64 t441,.bool false]) ?_ 2 _ rfl;(with_reducible repeat (first|refine bN_ ?_ _|refine bD_ ?_|refine bA_ ?_ _));refine blk_put (cs:=#[.slice Ao17 t438.length co17,.int .i64 0,.bool false]) ?_ 1 _ rfl;(with_reducible repeat (first|refine bN_ ?_ _|refine bD_ ?_|refine bA_ ?_ _));refine blk_put (cs:=#[.slice none 0 0,.int .i64 0,.bool false]) ?_ 0 _ rfl;(with_reducible repeat (first|refine bN_ ?_ _|refine bD_ ?_|refine bA_ ?_ _));exact BK447.out) hb);have n3_:=a_ (bS_ (by repeat (first|(with_reducible first|exact HB.out|apply wA_|apply pw_below_drewN|apply below_drew1|refine wS_ ?_ GE443.out|refine wS_ ?_ GE447.out)|exact HB.out)) hb);have n4_:=a_ (hbox);have n5_:=a_ ((by rw [hg];exact (below_size (by repeat (first|(with_reducible first|exact HB.out|apply wA_|apply pw_below_drewN|apply below_drew1|refine wS_ ?_ GE443.out|refine wS_ ?_ GE447.out)|exact HB.out))):w.heap.size≤gb448));have n6_:=a_ ((by rw [hg];exact (below_size (by repeat (first|(with_reducible first|exact HB.out|apply wA_|apply pw_below_drewN|apply below_drew1|refine wS_ ?_ GE443.out|refine wS_ ?_ GE447.out)|exact HB.out))):w.heap.size≤gb448));have n7_:=a_ ((by rw [hg];exact Nat.ne_of_lt (blk_lt (g:=gb443) (o:=.cells #[.slice Ao17 t438.length co17,.int .i64 t441,.bool t442] 25 (0,0)) (by (with_reducible repeat (first|refine bN_ ?_ _|refine bD_ ?_|refine bA_ ?_ _));refine blk_far ?_ NB443_447.out _;(with_reducible repeat (first|refine bN_ ?_ _|refine bD_ ?_|refine bA_ ?_ _));refine blk_far ?_ NB443_447.out _;(with_reducible repeat (first|refine bN_ ?_ _|refine bD_ ?_|refine bA_ ?_ _));refine blk_far ?_ NB443_447.out _;(with_reducible repeat (first|refine bN_ ?_ _|refine bD_ ?_|refine bA_ ?_ _));refine blk_far ?_ NB443_447.out _;(with_reducible repeat (first|refine bN_ ?_ _|refine bD_ ?_|refine bA_ ?_ _));exact BK443.out)):gb443≠gb448));have n8_:=a_ ((by rw [hg];exact Nat.ne_of_gt (blk_lt (g:=gb443) (o:=.cells #[.slice Ao17 t438.length co17,.int .i64 t441,.bool t442] 25 (0,0)) (by (with_reducible repeat (first|refine bN_ ?_ _|refine bD_ ?_|refine bA_ ?_ _));refine blk_far ?_ NB443_447.out _;(with_reducible repeat (first|refine bN_ ?_ _|refine bD_ ?_|refine bA_ ?_ _));refine blk_far ?_ NB443_447.out _;(with_reducible repeat (first|refine bN_ ?_ _|refine bD_ ?_|refine bA_ ?_ _));refine blk_far ?_ NB443_447.out _;(with_reducible repeat (first|refine bN_ ?_ _|refine bD_ ?_|refine bA_ ?_ _));refine blk_far ?_ NB443_447.out _;(with_reducible repeat (first|refine bN_ ?_ _|refine bD_ ?_|refine bA_ ?_ _));exact BK443.out)):gb448≠gb443));have n9_:=a_ ((by rw [hg];exact Nat.ne_of_lt (blk_lt (g:=gb447) (o:=.cells #[.slice Ao17 t438.length co17,.int .i64 (wrap64 ((t438.length:Int)+1)),.bool t442] 25 (0,0)) (by (with_reducible repeat (first|refine bN_ ?_ _|refine bD_ ?_|refine bA_ ?_ _));refine blk_put (cs:=#[.slice Ao17 t438.length co17,.int .i64 t441,.bool t442]) ?_ 1 _ rfl;(with_reducible repeat (first|refine bN_ ?_ _|refine bD_ ?_|refine bA_ ?_ _));refine blk_put (cs:=#[.slice Ao17 t438.length co17,.int .i64 t441,.bool false]) ?_ 2 _ rfl;(with_reducible repeat (first|refine bN_ ?_ _|refine bD_ ?_|refine bA_ ?_ _));refine blk_put (cs:=#[.slice Ao17 t438.length co17,.int .i64 0,.bool false]) ?_ 1 _ rfl;(with_reducible repeat (first|refine bN_ ?_ _|refine bD_ ?_|refine bA_ ?_ _));refine blk_put (cs:=#[.slice none 0 0,.int .i64 0,.bool false]) ?_ 0 _ rfl;(with_reducible repeat (first|refine bN_ ?_ _|refine bD_ ?_|refine bA_ ?_ _));exact BK447.out)):gb447≠gb448));have n10_:=a_ ((by rw [hg];exact Nat.ne_of_gt (blk_lt (g:=gb447) (o:=.cells #[.slice Ao17 t438.length co17,.int .i64 (wrap64 ((t438.length:Int)+1)),.bool t442] 25 (0,0)) (by (with_reducible repeat (first|refine bN_ ?_ _|refine bD_ ?_|refine bA_ ?_ _));refine blk_put (cs:=#[.slice Ao17 t438.length co17,.int .i64 t441,.bool t442]) ?_ 1 _ rfl;(with_reducible repeat (first|refine bN_ ?_ _|refine bD_ ?_|refine bA_ ?_ _));refine blk_put (cs:=#[.slice Ao17 t438.length co17,.int .i64 t441,.bool false]) ?_ 2 _ rfl;(with_reducible repeat (first|refine bN_ ?_ _|refine bD_ ?_|refine bA_ ?_ _));refine blk_put (cs:=#[.slice Ao17 t438.length co17,.int .i64 0,.bool false]) ?_ 1 _ rfl;(with_reducible repeat (first|refine bN_ ?_ _|refine bD_ ?_|refine bA_ ?_ _));refine blk_put (cs:=#[.slice none 0 0,.int .i64 0,.bool false]) ?_ 0 _ rfl;(with_reducible repeat (first|refine bN_ ?_ _|refine bD_ ?_|refine bA_ ?_ _));exact BK447.out)):gb448≠gb447));clear HO440;clear BK443;clear BK447;clear HB;have HO440:=n0_;have BK443:=n1_;have BK447:=n2_;have HB:=n3_;have BK448:=n4_;have GW448:=n5_;have GE448:=n6_;have NB443_448:=n7_;have NB448_443:=n8_;have NB447_448:=n9_;have NB448_447:=n10_;clear n0_ n1_ n2_ n3_ n4_ n5_ n6_ n7_ n8_ n9_ n10_;clear hb hbox hg;have hnb28:=NB448_443.out;have hnc28:=NB443_448.out;have hnb29:=NB448_447.out;have hnc29:=NB447_448.out;have Z30_0:w27.cell? ⟨gb448,0,none⟩=some (.slice none 0 0):=(bC_ BK448.out 0).trans rfl;have Z30_1:w27.cell? ⟨gb448,1,none⟩=some (.int .i64 0):=(bC_ BK448.out 1).trans rfl;have Z30_2:w27.cell? ⟨gb448,2,none⟩=some (.bool false):=(bC_ BK448.out 2).trans rfl;have Y30_0:=bF_ BK448.out 0;have Y30_1:=bF_ BK448.out 1;have Y30_2:=bF_ BK448.out 2;have Z31_0:w27.cell? ⟨gb443,0,none⟩=some (.slice Ao17 t438.length co17):=(bC_ BK443.out 0).trans rfl;have Z31_1:w27.cell? ⟨gb443,1,none⟩=some (.int .i64 t441):=(bC_ BK443.out 1).trans rfl;have Z31_2:w27.cell? ⟨gb443,2,none⟩=some (.bool t442):=(bC_ BK443.out 2).trans rfl;have Y31_0:=bF_ BK443.out 0;have Y31_1:=bF_ BK443.out 1;have Y31_2:=bF_ BK443.out 2)|((with_reducible refine gD_ (N:=7) rfl ?_);refine box_event ?hg (N:=7) ?hd (cs:=#[.slice none 0 0,.int .i64 0,.bool false]) (t:=25) ?hr ?_;(case hd=>rfl);(case hg=>rfl);(case hr=>first|(go_simp;done)|(go_simp;rfl));intro gb449 hg w32 hbox hb;have n0_:=a_ (Kd.R_below (by (with_reducible repeat (first|apply Kd.R_alloc|apply Kd.R_drewN|apply Kd.R_drew));exact (Kd.R_mono (Kd.R_far (p:=⟨gb448,1,none⟩) (Kd.R_far (p:=⟨gb448,2,none⟩) (Kd.R_far (p:=⟨gb448,1,none⟩) (Kd.R_far (p:=⟨gb448,0,none⟩) (Kd.R_types HO440.out BK448.out (by decide)) (fun _ hk=>hk.2) (.slice Ao17 t438.length co17)) (fun _ hk=>hk.2) (.int .i64 t441)) (fun _ hk=>hk.2) (.bool t442)) (fun _ hk=>hk.2) (.int .i64 (-1))) (fun _ h_=>h_.1))) hb);have n1_:=a_ (blk_below (g:=gb443) (o:=.cells #[.slice Ao17 t438.length co17,.int .i64 t441,.bool t442] 25 (0,0)) (by (with_reducible repeat (first|refine bN_ ?_ _|refine bD_ ?_|refine bA_ ?_ _));refine blk_far ?_ NB443_448.out _;(with_reducible repeat (first|refine bN_ ?_ _|refine bD_ ?_|refine bA_ ?_ _));refine blk_far ?_ NB443_448.out _;(with_reducible repeat (first|refine bN_ ?_ _|refine bD_ ?_|refine bA_ ?_ _));refine blk_far ?_ NB443_448.out _;(with_reducible repeat (first|refine bN_ ?_ _|refine bD_ ?_|refine bA_ ?_ _));refine blk_far ?_ NB443_448.out _;(with_reducible repeat (first|refine bN_ ?_ _|refine bD_ ?_|refine bA_ ?_ _));exact BK443.out) hb);have n2_:=a_ (blk_below (g:=gb447) (o:=.cells #[.slice Ao17 t438.length co17,.int .i64 (wrap64 ((t438.length:Int)+1)),.bool t442] 25 (0,0)) (by (with_reducible repeat (first|refine bN_ ?_ _|refine bD_ ?_|refine bA_ ?_ _));refine blk_far ?_ NB447_448.out _;(with_reducible repeat (first|refine bN_ ?_ _|refine bD_ ?_|refine bA_ ?_ _));refine blk_far ?_ NB447_448.out _;(with_reducible repeat (first|refine bN_ ?_ _|refine bD_ ?_|refine bA_ ?_ _));refine blk_far ?_ NB447_448.out _;(with_reducible repeat (first|refine bN_ ?_ _|refine bD_ ?_|refine bA_ ?_ _));refine blk_far ?_ NB447_448.out _;(with_reducible repeat (first|refine bN_ ?_ _|refine bD_ ?_|refine bA_ ?_ _));exact BK447.out) hb);have n3_:=a_ (blk_below (g:=gb448) (o:=.cells #[.slice Ao17 t438.length co17,.int .i64 (-1),.bool t442] 25 (0,0)) (by (with_reducible repeat (first|refine bN_ ?_ _|refine bD_ ?_|refine bA_ ?_ _));refine blk_put (cs:=#[.slice Ao17 t438.length co17,.int .i64 t441,.bool t442]) ?_ 1 _ rfl;(with_reducible repeat (first|refine bN_ ?_ _|refine bD_ ?_|refine bA_ ?_ _));refine blk_put (cs:=#[.slice Ao17 t438.length co17,.int .i64 t441,.bool false]) ?_ 2 _ rfl;(with_reducible repeat (first|refine bN_ ?_ _|refine bD_ ?_|refine bA_ ?_ _));refine blk_put (cs:=#[.slice Ao17 t438.length co17,.int .i64 0,.bool false]) ?_ 1 _ rfl;(with_reducible repeat (first|refine bN_ ?_ _|refine bD_ ?_|refine bA_ ?_ _));refine blk_put (cs:=#[.slice none 0 0,.int .i64 0,.bool false]) ?_ 0 _ rfl;(with_reducible repeat (first|refine bN_ ?_ _|refine bD_ ?_|refine bA_ ?_ _));exact BK448.out) hb);have n4_:=a_ (bS_ (by repeat (first|(with_reducible first|exact HB.out|apply wA_|apply pw_below_drewN|apply below_drew1|refine wS_ ?_ GE443.out|refine wS_ ?_ GE447.out|refine wS_ ?_ GE448.out)|exact HB.out)) hb);have n5_:=a_ (hbox);have n6_:=a_ ((by rw [hg];exact (below_size (by repeat (first|(with_reducible first|exact HB.out|apply wA_|apply pw_below_drewN|apply below_drew1|refine wS_ ?_ GE443.out|refine wS_ ?_ GE447.out|refine wS_ ?_ GE448.out)|exact HB.out))):w.heap.size≤gb449));have n7_:=a_ ((by rw [hg];exact (below_size (by repeat (first|(with_reducible first|exact HB.out|apply wA_|apply pw_below_drewN|apply below_drew1|refine wS_ ?_ GE443.out|refine wS_ ?_ GE447.out|refine wS_ ?_ GE448.out)|exact HB.out))):w.heap.size≤gb449));have n8_:=a_ ((by rw [hg];exact Nat.ne_of_lt (blk_lt (g:=gb443) (o:=.cells #[.slice Ao17 t438.length co17,.int .i64 t441,.bool t442] 25 (0,0)) (by (with_reducible repeat (first|refine bN_ ?_ _|refine bD_ ?_|refine bA_ ?_ _));refine blk_far ?_ NB443_448.out _;(with_reducible repeat (first|refine bN_ ?_ _|refine bD_ ?_|refine bA_ ?_ _));refine blk_far ?_ NB443_448.out _;(with_reducible repeat (first|refine bN_ ?_ _|refine bD_ ?_|refine bA_ ?_ _));refine blk_far ?_ NB443_448.out _;(with_reducible repeat (first|refine bN_ ?_ _|refine bD_ ?_|refine bA_ ?_ _));refine blk_far ?_ NB443_448.out _;(with_reducible repeat (first|refine bN_ ?_ _|refine bD_ ?_|refine bA_ ?_ _));exact BK443.out)):gb443≠gb449));have n9_:=a_ ((by rw [hg];exact Nat.ne_of_gt (blk_lt (g:=gb443) (o:=.cells #[.slice Ao17 t438.length co17,.int .i64 t441,.bool t442] 25 (0,0)) (by (with_reducible repeat (first|refine bN_ ?_ _|refine bD_ ?_|refine bA_ ?_ _));refine blk_far ?_ NB443_448.out _;(with_reducible repeat (first|refine bN_ ?_ _|refine bD_ ?_|refine bA_ ?_ _));refine blk_far ?_ NB443_448.out _;(with_reducible repeat (first|refine bN_ ?_ _|refine bD_ ?_|refine bA_ ?_ _));refine blk_far ?_ NB443_448.out _;(with_reducible repeat (first|refine bN_ ?_ _|refine bD_ ?_|refine bA_ ?_ _));refine blk_far ?_ NB443_448.out _;(with_reducible repeat (first|refine bN_ ?_ _|refine bD_ ?_|refine bA_ ?_ _));exact BK443.out)):gb449≠gb443));have n10_:=a_ ((by rw [hg];exact Nat.ne_of_lt (blk_lt (g:=gb447) (o:=.cells #[.slice Ao17 t438.length co17,.int .i64 (wrap64 ((t438.length:Int)+1)),.bool t442] 25 (0,0)) (by (with_reducible repeat (first|refine bN_ ?_ _|refine bD_ ?_|refine bA_ ?_ _));refine blk_far ?_ NB447_448.out _;(with_reducible repeat (first|refine bN_ ?_ _|refine bD_ ?_|refine bA_ ?_ _));refine blk_far ?_ NB447_448.out _;(with_reducible repeat (first|refine bN_ ?_ _|refine bD_ ?_|refine bA_ ?_ _));refine blk_far ?_ NB447_448.out _;(with_reducible repeat (first|refine bN_ ?_ _|refine bD_ ?_|refine bA_ ?_ _));refine blk_far ?_ NB447_448.out _;(with_reducible repeat (first|refine bN_ ?_ _|refine bD_ ?_|refine bA_ ?_ _));exact BK447.out)):gb447≠gb449));have n11_:=a_ ((by rw [hg];exact Nat.ne_of_gt (blk_lt (g:=gb447) (o:=.cells #[.slice Ao17 t438.length co17,.int .i64 (wrap64 ((t438.length:Int)+1)),.bool t442] 25 (0,0)) (by (with_reducible repeat (first|refine bN_ ?_ _|refine bD_ ?_|refine bA_ ?_ _));refine blk_far ?_ NB447_448.out _;(with_reducible repeat (first|refine bN_ ?_ _|refine bD_ ?_|refine bA_ ?_ _));refine blk_far ?_ NB447_448.out _;(with_reducible repeat (first|refine bN_ ?_ _|refine bD_ ?_|refine bA_ ?_ _));refine blk_far ?_ NB447_448.out _;(with_reducible repeat (first|refine bN_ ?_ _|refine bD_ ?_|refine bA_ ?_ _));refine blk_far ?_ NB447_448.out _;(with_reducible repeat (first|refine bN_ ?_ _|refine bD_ ?_|refine bA_ ?_ _));exact BK447.out)):gb449≠gb447));have n12_:=a_ ((by rw [hg];exact Nat.ne_of_lt (blk_lt (g:=gb448) (o:=.cells #[.slice Ao17 t438.length co17,.int .i64 (-1),.bool t442] 25 (0,0)) (by (with_reducible repeat (first|refine bN_ ?_ _|refine bD_ ?_|refine bA_ ?_ _));refine blk_put (cs:=#[.slice Ao17 t438.length co17,.int .i64 t441,.bool t442]) ?_ 1 _ rfl;(with_reducible repeat (first|refine bN_ ?_ _|refine bD_ ?_|refine bA_ ?_ _));refine blk_put (cs:=#[.slice Ao17 t438.length co17,.int .i64 t441,.bool false]) ?_ 2 _ rfl;(with_reducible repeat (first|refine bN_ ?_ _|refine bD_ ?_|refine bA_ ?_ _));refine blk_put (cs:=#[.slice Ao17 t438.length co17,.int .i64 0,.bool false]) ?_ 1 _ rfl;(with_reducible repeat (first|refine bN_ ?_ _|refine bD_ ?_|refine bA_ ?_ _));refine blk_put (cs:=#[.slice none 0 0,.int .i64 0,.bool false]) ?_ 0 _ rfl;(with_reducible repeat (first|refine bN_ ?_ _|refine bD_ ?_|refine bA_ ?_ _));exact BK448.out)):gb448≠gb449));have n13_:=a_ ((by rw [hg];exact Nat.ne_of_gt (blk_lt (g:=gb448) (o:=.cells #[.slice Ao17 t438.length co17,.int .i64 (-1),.bool t442] 25 (0,0)) (by (with_reducible repeat (first|refine bN_ ?_ _|refine bD_ ?_|refine bA_ ?_ _));refine blk_put (cs:=#[.slice Ao17 t438.length co17,.int .i64 t441,.bool t442]) ?_ 1 _ rfl;(with_reducible repeat (first|refine bN_ ?_ _|refine bD_ ?_|refine bA_ ?_ _));refine blk_put (cs:=#[.slice Ao17 t438.length co17,.int .i64 t441,.bool false]) ?_ 2 _ rfl;(with_reducible repeat (first|refine bN_ ?_ _|refine bD_ ?_|refine bA_ ?_ _));refine blk_put (cs:=#[.slice Ao17 t438.length co17,.int .i64 0,.bool false]) ?_ 1 _ rfl;(with_reducible repeat (first|refine bN_ ?_ _|refine bD_ ?_|refine bA_ ?_ _));refine blk_put (cs:=#[.slice none 0 0,.int .i64 0,.bool false]) ?_ 0 _ rfl;(with_reducible repeat (first|refine bN_ ?_ _|refine bD_ ?_|refine bA_ ?_ _));exact BK448.out)):gb449≠gb448));clear HO440;clear BK443;clear BK447;clear BK448;clear HB;have HO440:=n0_;have BK443:=n1_;have BK447:=n2_;have BK448:=n3_;have HB:=n4_;have BK449:=n5_;have GW449:=n6_;have GE449:=n7_;have NB443_449:=n8_;have NB449_443:=n9_;have NB447_449:=n10_;have NB449_447:=n11_;have NB448_449:=n12_;have NB449_448:=n13_;clear n0_ n1_ n2_ n3_ n4_ n5_ n6_ n7_ n8_ n9_ n10_ n11_ n12_ n13_;clear hb hbox hg;have hnb33:=NB449_443.out;have hnc33:=NB443_449.out;have hnb34:=NB449_447.out;have hnc34:=NB447_449.out;have hnb35:=NB449_448.out;have hnc35:=NB448_449.out;have Z36_0:w32.cell? ⟨gb449,0,none⟩=some (.slice none 0 0):=(bC_ BK449.out 0).trans rfl;have Z36_1:w32.cell? ⟨gb449,1,none⟩=some (.int .i64 0):=(bC_ BK449.out 1).trans rfl;have Z36_2:w32.cell? ⟨gb449,2,none⟩=some (.bool false):=(bC_ BK449.out 2).trans rfl;have Y36_0:=bF_ BK449.out 0;have Y36_1:=bF_ BK449.out 1;have Y36_2:=bF_ BK449.out 2;have Z37_0:w32.cell? ⟨gb443,0,none⟩=some (.slice Ao17 t438.length co17):=(bC_ BK443.out 0).trans rfl;have Z37_1:w32.cell? ⟨gb443,1,none⟩=some (.int .i64 t441):=(bC_ BK443.out 1).trans rfl;have Z37_2:w32.cell? ⟨gb443,2,none⟩=some (.bool t442):=(bC_ BK443.out 2).trans rfl;have Y37_0:=bF_ BK443.out 0;have Y37_1:=bF_ BK443.out 1;have Y37_2:=bF_ BK443.out 2;have Z38_0:w32.cell? ⟨gb447,0,none⟩=some (.slice Ao17 t438.length co17):=(bC_ BK447.out 0).trans rfl;have Z38_1:w32.cell? ⟨gb447,1,none⟩=some (.int .i64 (wrap64 ((t438.length:Int)+1))):=(bC_ BK447.out 1).trans rfl;have Z38_2:w32.cell? ⟨gb447,2,none⟩=some (.bool t442):=(bC_ BK447.out 2).trans rfl;have Y38_0:=bF_ BK447.out 0;have Y38_1:=bF_ BK447.out 1;have Y38_2:=bF_ BK447.out 2;obtain ⟨i038,hi038,_,hsz38,_⟩:=info_parts info44;have hcut38:=cut_to (P:=Tryd.prog) 23 44 .i64 Tryd.underlying23 hi038 Ao17 t438.length co17 t441 HD1.out HD2.out (Kd.R_reads' HO440.out).2.1;rw [←KY38.out] at hcut38;clear hi038 hsz38;have KC996:Aside0 (y996.length≤co17):=⟨by have h_:=(Kd.R_reads' HO440.out).2.1;have h1_:=KY38.out;have h2_:=HD2.out;have h3_:=HD1.out;omega⟩)|((with_reducible refine gC_ (f:=16) rfl ?_);refine goesL_ (some 43) rfl rfl Tryd.func16 (by kernel_rfl) rfl #[.agg #[.slice Ao17 t438.length co17,.int .i64 (wrap64 ((t438.length:Int)+1)),.bool t442]] rfl (by (try simp only [List.map_toArray,List.map_cons,List.map_nil]);first|done|rfl|(simp only [List.length_drop,List.length_take];rfl)) ?_;(with_reducible refine (impl_ServerOk.calls k _ _ t438 (wrap64 ((t438.length:Int)+1)) t442 false _ ?side1 ?side2 A8.out ?side3).mono ?_);(case side1=>refine (Kd.R_reads' (e:=44) (base:=w.heap.size) (ok:=fun k_=>True) (n:=t438.length) (c:=co17) ?_).2.2;exact (by (with_reducible repeat (first|apply Kd.R_alloc|apply Kd.R_drewN|apply Kd.R_drew));exact (Kd.R_mono (Kd.R_far (p:=⟨gb449,0,none⟩) (Kd.R_far (p:=⟨gb449,2,none⟩) (Kd.R_far (p:=⟨gb449,1,none⟩) (Kd.R_far (p:=⟨gb449,0,none⟩) (Kd.R_types HO440.out BK449.out (by decide)) (fun _ hk=>hk.2) (.slice Ao17 t438.length co17)) (fun _ hk=>hk.2) (.int .i64 t441)) (fun _ hk=>hk.2) (.bool t442)) (fun _ hk=>hk.2) (.slice Ao17 y996.length co17)) (fun _ h_=>h_.1))));(case side2=>exact (Kd.R_reads' HO440.out).2.1);(case side3=>exact Glob.below HG.out (by repeat (first|(with_reducible first|exact HB.out|apply wA_|apply pw_below_drewN|apply below_drew1|refine wS_ ?_ GE443.out|refine wS_ ?_ GE447.out|refine wS_ ?_ GE448.out|refine wS_ ?_ GE449.out)|exact HB.out)));rintro e w39 ⟨rfl,hb⟩;refine ⟨_,rfl,?_⟩;have n0_:=a_ (Kd.R_below (by (with_reducible repeat (first|apply Kd.R_alloc|apply Kd.R_drewN|apply Kd.R_drew));exact (Kd.R_mono (Kd.R_far (p:=⟨gb449,0,none⟩) (Kd.R_far (p:=⟨gb449,2,none⟩) (Kd.R_far (p:=⟨gb449,1,none⟩) (Kd.R_far (p:=⟨gb449,0,none⟩) (Kd.R_types HO440.out BK449.out (by decide)) (fun _ hk=>hk.2) (.slice Ao17 t438.length co17)) (fun _ hk=>hk.2) (.int .i64 t441)) (fun _ hk=>hk.2) (.bool t442)) (fun _ hk=>hk.2) (.slice Ao17 y996.length co17)) (fun _ h_=>h_.1))) hb);have n1_:=a_ (blk_below (g:=gb443) (o:=.cells #[.slice Ao17 t438.length co17,.int .i64 t441,.bool t442] 25 (0,0)) (by (with_reducible repeat (first|refine bN_ ?_ _|refine bD_ ?_|refine bA_ ?_ _));refine blk_far ?_ NB443_449.out _;(with_reducible repeat (first|refine bN_ ?_ _|refine bD_ ?_|refine bA_ ?_ _));refine blk_far ?_ NB443_449.out _;(with_reducible repeat (first|refine bN_ ?_ _|refine bD_ ?_|refine bA_ ?_ _));refine blk_far ?_ NB443_449.out _;(with_reducible repeat (first|refine bN_ ?_ _|refine bD_ ?_|refine bA_ ?_ _));refine blk_far ?_ NB443_449.out _;(with_reducible repeat (first|refine bN_ ?_ _|refine bD_ ?_|refine bA_ ?_ _));exact BK443.out) hb);have n2_:=a_ (blk_below (g:=gb447) (o:=.cells #[.slice Ao17 t438.length co17,.int .i64 (wrap64 ((t438.length:Int)+1)),.bool t442] 25 (0,0)) (by (with_reducible repeat (first|refine bN_ ?_ _|refine bD_ ?_|refine bA_ ?_ _));refine blk_far ?_ NB447_449.out _;(with_reducible repeat (first|refine bN_ ?_ _|refine bD_ ?_|refine bA_ ?_ _));refine blk_far ?_ NB447_449.out _;(with_reducible repeat (first|refine bN_ ?_ _|refine bD_ ?_|refine bA_ ?_ _));refine blk_far ?_ NB447_449.out _;(with_reducible repeat (first|refine bN_ ?_ _|refine bD_ ?_|refine bA_ ?_ _));refine blk_far ?_ NB447_449.out _;(with_reducible repeat (first|refine bN_ ?_ _|refine bD_ ?_|refine bA_ ?_ _));exact BK447.out) hb);have n3_:=a_ (blk_below (g:=gb448) (o:=.cells #[.slice Ao17 t438.length co17,.int .i64 (-1),.bool t442] 25 (0,0)) (by (with_reducible repeat (first|refine bN_ ?_ _|refine bD_ ?_|refine bA_ ?_ _));refine blk_far ?_ NB448_449.out _;(with_reducible repeat (first|refine bN_ ?_ _|refine bD_ ?_|refine bA_ ?_ _));refine blk_far ?_ NB448_449.out _;(with_reducible repeat (first|refine bN_ ?_ _|refine bD_ ?_|refine bA_ ?_ _));refine blk_far ?_ NB448_449.out _;(with_reducible repeat (first|refine bN_ ?_ _|refine bD_ ?_|refine bA_ ?_ _));refine blk_far ?_ NB448_449.out _;(with_reducible repeat (first|refine bN_ ?_ _|refine bD_ ?_|refine bA_ ?_ _));exact BK448.out) hb);have n4_:=a_ (blk_below (g:=gb449) (o:=.cells #[.slice Ao17 y996.length co17,.int .i64 t441,.bool t442] 25 (0,0)) (by (with_reducible repeat (first|refine bN_ ?_ _|refine bD_ ?_|refine bA_ ?_ _));refine blk_put (cs:=#[.slice Ao17 t438.length co17,.int .i64 t441,.bool t442]) ?_ 0 _ rfl;(with_reducible repeat (first|refine bN_ ?_ _|refine bD_ ?_|refine bA_ ?_ _));refine blk_put (cs:=#[.slice Ao17 t438.length co17,.int .i64 t441,.bool false]) ?_ 2 _ rfl;(with_reducible repeat (first|refine bN_ ?_ _|refine bD_ ?_|refine bA_ ?_ _));refine blk_put (cs:=#[.slice Ao17 t438.length co17,.int .i64 0,.bool false]) ?_ 1 _ rfl;(with_reducible repeat (first|refine bN_ ?_ _|refine bD_ ?_|refine bA_ ?_ _));refine blk_put (cs:=#[.slice none 0 0,.int .i64 0,.bool false]) ?_ 0 _ rfl;(with_reducible repeat (first|refine bN_ ?_ _|refine bD_ ?_|refine bA_ ?_ _));exact BK449.out) hb);have n5_:=a_ (bS_ (by repeat (first|(with_reducible first|exact HB.out|apply wA_|apply pw_below_drewN|apply below_drew1|refine wS_ ?_ GE443.out|refine wS_ ?_ GE447.out|refine wS_ ?_ GE448.out|refine wS_ ?_ GE449.out)|exact HB.out)) hb);clear HO440;clear BK443;clear BK447;clear BK448;clear BK449;clear HB;have HO440:=n0_;have BK443:=n1_;have BK447:=n2_;have BK448:=n3_;have BK449:=n4_;have HB:=n5_;clear n0_ n1_ n2_ n3_ n4_ n5_;(try clear hb);(try clear hb2);(try clear hk);(try clear hi);have Z40_0:w39.cell? ⟨gb448,0,none⟩=some (.slice Ao17 t438.length co17):=(bC_ BK448.out 0).trans rfl;have Z40_1:w39.cell? ⟨gb448,1,none⟩=some (.int .i64 (-1)):=(bC_ BK448.out 1).trans rfl;have Z40_2:w39.cell? ⟨gb448,2,none⟩=some (.bool t442):=(bC_ BK448.out 2).trans rfl;have Y40_0:=bF_ BK448.out 0;have Y40_1:=bF_ BK448.out 1;have Y40_2:=bF_ BK448.out 2)|(go_at_call 16;(with_reducible refine (impl_ServerOk.calls k _ _ t438 (-1) t442 false _ ?side1 ?side2 A10.out ?side3).mono ?_);(case side1=>repeat (first|exact (Kd.R_reads' HO440.out).2.2|(with_reducible refine Kd.C_alloc ?_ _)|(with_reducible refine Kd.C_drewN ?_ _)|(with_reducible refine Kd.C_drew ?_)));(case side2=>exact (Kd.R_reads' HO440.out).2.1);(case side3=>exact Glob.below HG.out (by repeat (first|(with_reducible first|exact HB.out|apply wA_|apply pw_below_drewN|apply below_drew1|refine wS_ ?_ GE443.out|refine wS_ ?_ GE447.out|refine wS_ ?_ GE448.out|refine wS_ ?_ GE449.out)|exact HB.out)));rintro e w41 ⟨rfl,hb⟩;have n0_:=a_ (Kd.R_below (by (with_reducible repeat (first|apply Kd.R_alloc|apply Kd.R_drewN|apply Kd.R_drew));exact HO440.out) hb);have n1_:=a_ (blk_below (g:=gb443) (o:=.cells #[.slice Ao17 t438.length co17,.int .i64 t441,.bool t442] 25 (0,0)) (by (with_reducible repeat (first|refine bN_ ?_ _|refine bD_ ?_|refine bA_ ?_ _));exact BK443.out) hb);have n2_:=a_ (blk_below (g:=gb447) (o:=.cells #[.slice Ao17 t438.length co17,.int .i64 (wrap64 ((t438.length:Int)+1)),.bool t442] 25 (0,0)) (by (with_reducible repeat (first|refine bN_ ?_ _|refine bD_ ?_|refine bA_ ?_ _));exact BK447.out) hb);have n3_:=a_ (blk_below (g:=gb448) (o:=.cells #[.slice Ao17 t438.length co17,.int .i64 (-1),.bool t442] 25 (0,0)) (by (with_reducible repeat (first|refine bN_ ?_ _|refine bD_ ?_|refine bA_ ?_ _));exact BK448.out) hb);have n4_:=a_ (blk_below (g:=gb449) (o:=.cells #[.slice Ao17 y996.length co17,.int .i64 t441,.bool t442] 25 (0,0)) (by (with_reducible repeat (first|refine bN_ ?_ _|refine bD_ ?_|refine bA_ ?_ _));exact BK449.out) hb);have n5_:=a_ (bS_ (by repeat (first|(with_reducible first|exact HB.out|apply wA_|apply pw_below_drewN|apply below_drew1|refine wS_ ?_ GE443.out|refine wS_ ?_ GE447.out|refine wS_ ?_ GE448.out|refine wS_ ?_ GE449.out)|exact HB.out)) hb);clear HO440;clear BK443;clear BK447;clear BK448;clear BK449;clear HB;have HO440:=n0_;have BK443:=n1_;have BK447:=n2_;have BK448:=n3_;have BK449:=n4_;have HB:=n5_;clear n0_ n1_ n2_ n3_ n4_ n5_;(try clear hb);(try clear hb2);(try clear hk);(try clear hi);have Z42_0:w41.cell? ⟨gb449,0,none⟩=some (.slice Ao17 y996.length co17):=(bC_ BK449.out 0).trans rfl;have Z42_1:w41.cell? ⟨gb449,1,none⟩=some (.int .i64 t441):=(bC_ BK449.out 1).trans rfl;have Z42_2:w41.cell? ⟨gb449,2,none⟩=some (.bool t442):=(bC_ BK449.out 2).trans rfl;have Y42_0:=bF_ BK449.out 0;have Y42_1:=bF_ BK449.out 1;have Y42_2:=bF_ BK449.out 2)|(go_at_call 16;(with_reducible refine (impl_ServerOk.calls k _ _ y996 t441 t442 true _ ?side1 ?side2 A12.out ?side3).mono ?_);(case side1=>repeat (first|exact (by rw [Ny996.out];exact Kd.C_take (Kd.R_reads' HO440.out).2.2 (by have h2_:=HD2.out;have h3_:=HD1.out;omega))|(with_reducible refine Kd.C_alloc ?_ _)|(with_reducible refine Kd.C_drewN ?_ _)|(with_reducible refine Kd.C_drew ?_)));(case side2=>exact KC996.out);(case side3=>exact Glob.below HG.out (by repeat (first|(with_reducible first|exact HB.out|apply wA_|apply pw_below_drewN|apply below_drew1|refine wS_ ?_ GE443.out|refine wS_ ?_ GE447.out|refine wS_ ?_ GE448.out|refine wS_ ?_ GE449.out)|exact HB.out)));rintro e w43 ⟨rfl,hb⟩;have n0_:=a_ (Kd.R_below (by (with_reducible repeat (first|apply Kd.R_alloc|apply Kd.R_drewN|apply Kd.R_drew));exact HO440.out) hb);have n1_:=a_ (blk_below (g:=gb443) (o:=.cells #[.slice Ao17 t438.length co17,.int .i64 t441,.bool t442] 25 (0,0)) (by (with_reducible repeat (first|refine bN_ ?_ _|refine bD_ ?_|refine bA_ ?_ _));exact BK443.out) hb);have n2_:=a_ (blk_below (g:=gb447) (o:=.cells #[.slice Ao17 t438.length co17,.int .i64 (wrap64 ((t438.length:Int)+1)),.bool t442] 25 (0,0)) (by (with_reducible repeat (first|refine bN_ ?_ _|refine bD_ ?_|refine bA_ ?_ _));exact BK447.out) hb);have n3_:=a_ (blk_below (g:=gb448) (o:=.cells #[.slice Ao17 t438.length co17,.int .i64 (-1),.bool t442] 25 (0,0)) (by (with_reducible repeat (first|refine bN_ ?_ _|refine bD_ ?_|refine bA_ ?_ _));exact BK448.out) hb);have n4_:=a_ (blk_below (g:=gb449) (o:=.cells #[.slice Ao17 y996.length co17,.int .i64 t441,.bool t442] 25 (0,0)) (by (with_reducible repeat (first|refine bN_ ?_ _|refine bD_ ?_|refine bA_ ?_ _));exact BK449.out) hb);have n5_:=a_ (bS_ (by repeat (first|(with_reducible first|exact HB.out|apply wA_|apply pw_below_drewN|apply below_drew1|refine wS_ ?_ GE443.out|refine wS_ ?_ GE447.out|refine wS_ ?_ GE448.out|refine wS_ ?_ GE449.out)|exact HB.out)) hb);clear HO440;clear BK443;clear BK447;clear BK448;clear BK449;clear HB;have HO440:=n0_;have BK443:=n1_;have BK447:=n2_;have BK448:=n3_;have BK449:=n4_;have HB:=n5_;clear n0_ n1_ n2_ n3_ n4_ n5_;(try clear hb);(try clear hb2);(try clear hk);(try clear hi))|(go_at_call 18;(with_reducible refine (impl_ServerNew.calls yN 0 true _ HN_.out).mono ?_);rintro e w45 ⟨v455,rfl,ho0,hb⟩;have n0_:=a_ (Kd.R_below (by (with_reducible repeat (first|apply Kd.R_alloc|apply Kd.R_drewN|apply Kd.R_drew));exact HO440.out) hb);have n1_:=a_ (blk_below (g:=gb443) (o:=.cells #[.slice Ao17 t438.length co17,.int .i64 t441,.bool t442] 25 (0,0)) (by (with_reducible repeat (first|refine bN_ ?_ _|refine bD_ ?_|refine bA_ ?_ _));exact BK443.out) hb);have n2_:=a_ (blk_below (g:=gb447) (o:=.cells #[.slice Ao17 t438.length co17,.int .i64 (wrap64 ((t438.length:Int)+1)),.bool t442] 25 (0,0)) (by (with_reducible repeat (first|refine bN_ ?_ _|refine bD_ ?_|refine bA_ ?_ _));exact BK447.out) hb);have n3_:=a_ (blk_below (g:=gb448) (o:=.cells #[.slice Ao17 t438.length co17,.int .i64 (-1),.bool t442] 25 (0,0)) (by (with_reducible repeat (first|refine bN_ ?_ _|refine bD_ ?_|refine bA_ ?_ _));exact BK448.out) hb);have n4_:=a_ (blk_below (g:=gb449) (o:=.cells #[.slice Ao17 y996.length co17,.int .i64 t441,.bool t442] 25 (0,0)) (by (with_reducible repeat (first|refine bN_ ?_ _|refine bD_ ?_|refine bA_ ?_ _));exact BK449.out) hb);have n5_:=a_ (bS_ (by repeat (first|(with_reducible first|exact HB.out|apply wA_|apply pw_below_drewN|apply below_drew1|refine wS_ ?_ GE443.out|refine wS_ ?_ GE447.out|refine wS_ ?_ GE448.out|refine wS_ ?_ GE449.out)|exact HB.out)) hb);clear HO440;clear BK443;clear BK447;clear BK448;clear BK449;clear HB;have HO440:=n0_;have BK443:=n1_;have BK447:=n2_;have BK448:=n3_;have BK449:=n4_;have HB:=n5_;clear n0_ n1_ n2_ n3_ n4_ n5_;(try clear hb);(try clear hb2);(try clear hk);(try clear hi);have HO456:=a_ ho0;clear ho0;obtain ⟨AoN,coN,eoN⟩:=Kd.R_slice HO456.out;subst eoN)|(go_at_call 16;(with_reducible refine (impl_ServerOk.calls k _ _ yN 0 true t453 _ ?side1 ?side2 A14.out ?side3).mono ?_);(case side1=>repeat (first|exact (Kd.R_reads' HO456.out).2.2|(with_reducible refine Kd.C_alloc ?_ _)|(with_reducible refine Kd.C_drewN ?_ _)|(with_reducible refine Kd.C_drew ?_)));(case side2=>exact (Kd.R_reads' HO456.out).2.1);(case side3=>exact Glob.below HG.out (by repeat (first|(with_reducible first|exact HB.out|apply wA_|apply pw_below_drewN|apply below_drew1|refine wS_ ?_ GE443.out|refine wS_ ?_ GE447.out|refine wS_ ?_ GE448.out|refine wS_ ?_ GE449.out)|exact HB.out)));rintro e w44 ⟨rfl,hb⟩;have n0_:=a_ (Kd.R_below (by (with_reducible repeat (first|apply Kd.R_alloc|apply Kd.R_drewN|apply Kd.R_drew));exact HO440.out) hb);have n1_:=a_ (blk_below (g:=gb443) (o:=.cells #[.slice Ao17 t438.length co17,.int .i64 t441,.bool t442] 25 (0,0)) (by (with_reducible repeat (first|refine bN_ ?_ _|refine bD_ ?_|refine bA_ ?_ _));exact BK443.out) hb);have n2_:=a_ (blk_below (g:=gb447) (o:=.cells #[.slice Ao17 t438.length co17,.int .i64 (wrap64 ((t438.length:Int)+1)),.bool t442] 25 (0,0)) (by (with_reducible repeat (first|refine bN_ ?_ _|refine bD_ ?_|refine bA_ ?_ _));exact BK447.out) hb);have n3_:=a_ (blk_below (g:=gb448) (o:=.cells #[.slice Ao17 t438.length co17,.int .i64 (-1),.bool t442] 25 (0,0)) (by (with_reducible repeat (first|refine bN_ ?_ _|refine bD_ ?_|refine bA_ ?_ _));exact BK448.out) hb);have n4_:=a_ (blk_below (g:=gb449) (o:=.cells #[.slice Ao17 y996.length co17,.int .i64 t441,.bool t442] 25 (0,0)) (by (with_reducible repeat (first|refine bN_ ?_ _|refine bD_ ?_|refine bA_ ?_ _));exact BK449.out) hb);have n5_:=a_ (bS_ (by repeat (first|(with_reducible first|exact HB.out|apply wA_|apply pw_below_drewN|apply below_drew1|refine wS_ ?_ GE443.out|refine wS_ ?_ GE447.out|refine wS_ ?_ GE448.out|refine wS_ ?_ GE449.out)|exact HB.out)) hb);clear HO440;clear BK443;clear BK447;clear BK448;clear BK449;clear HB;have HO440:=n0_;have BK443:=n1_;have BK447:=n2_;have BK448:=n3_;have BK449:=n4_;have HB:=n5_;clear n0_ n1_ n2_ n3_ n4_ n5_;(try clear hb);(try clear hb2);(try clear hk);(try clear hi)))
       go_ret
       exact ⟨by first|rfl|(simp [errW_none,errW_some] <;> rfl)|(simp [*,errW_none,errW_some] <;> rfl),by repeat (first|(with_reducible first|exact HB.out|apply wA_|apply pw_below_drewN|apply below_drew1|refine wS_ ?_ GE443.out|refine wS_ ?_ GE447.out|refine wS_ ?_ GE448.out|refine wS_ ?_ GE449.out)|exact HB.out)⟩
      ·replace c13:=Bool.eq_false_iff.mpr c13
       subst c13
       have H1:(none)=some r:=by rw [if_neg (show ¬ (false=true) by decide)] at H;exact H
       clear H
       have H:=H1
       clear H1
       exact absurd H (by simp)
   ·replace c7:=Bool.eq_false_iff.mpr c7
    subst c7
    have H1:((spec_ServerOk.f k t438 t441 t442).bind fun t446=>(some (false==t446)))=some r:=by rw [if_neg (show ¬ (false=true) by decide)] at H;exact H
    clear H
    have H:=H1
    clear H1
    replace H:=bs_ H
    obtain ⟨t446,A450,H⟩:=H
    replace H:(some (false==t446))=some r:=H
    have A45:=a_ A450
    clear A450
    obtain rfl:=sj_ H
    go_enter Tryd.func3,Tryd.ntmps3
    go_wp2_with (first|((with_reducible refine gC_ (f:=15) rfl ?_);refine goesL_ (some 12) rfl rfl Tryd.func15 (by kernel_rfl) rfl #[.slice A0 l0.length c0] rfl (by (try simp only [List.map_toArray,List.map_cons,List.map_nil]);first|done|rfl|(simp only [List.length_drop,List.length_take];rfl)) ?_;(with_reducible refine (spec_DrawServerOk.calls k _ _ l0 t438 t441 t442 _ ?side1 ?side2 A3.out).mono ?_);(case side1=>repeat (first|exact HR0.out|(with_reducible refine Kd.C_alloc ?_ _)|(with_reducible refine Kd.C_drewN ?_ _)|(with_reducible refine Kd.C_drew ?_)));(case side2=>exact HC0.out);rintro e w46 ⟨v439,rfl,ho0,hb⟩;refine ⟨_,rfl,?_⟩;have n0_:=a_ (Kd.R_lower ho0 (below_size (by repeat (first|(with_reducible first|exact HB.out|apply wA_|apply pw_below_drewN|apply below_drew1)|exact HB.out))));have n1_:=a_ (bS_ (by repeat (first|(with_reducible first|exact HB.out|apply wA_|apply pw_below_drewN|apply below_drew1)|exact HB.out)) hb);clear HB;have HO440:=n0_;have HB:=n1_;clear n0_ n1_;(try clear hb);(try clear hb2);(try clear hk);(try clear hi);(try clear ho0))|((with_reducible refine gD_ (N:=3) rfl ?_);refine box_event ?hg (N:=3) ?hd (cs:=#[.slice none 0 0,.int .i64 0,.bool false]) (t:=25) ?hr ?_;(case hd=>rfl);(case hg=>rfl);(case hr=>first|(go_simp;done)|(go_simp;rfl));intro gb443 hg w47 hbox hb;have n0_:=a_ (Kd.R_below (by (with_reducible repeat (first|apply Kd.R_alloc|apply Kd.R_drewN|apply Kd.R_drew));exact HO440.out) hb);have n1_:=a_ (bS_ (by repeat (first|(with_reducible first|exact HB.out|apply wA_|apply pw_below_drewN|apply below_drew1)|exact HB.out)) hb);have n2_:=a_ (hbox);have n3_:=a_ ((by rw [hg];exact (below_size (by repeat (first|(with_reducible first|exact HB.out|apply wA_|apply pw_below_drewN|apply below_drew1)|exact HB.out))):w.heap.size≤gb443));have n4_:=a_ ((by rw [hg];exact (below_size (by repeat (first|(with_reducible first|exact HB.out|apply wA_|apply pw_below_drewN|apply below_drew1)|exact HB.out))):w.heap.size≤gb443));clear HO440;clear HB;have HO440:=n0_;have HB:=n1_;have BK443:=n2_;have GW443:=n3_;have GE443:=n4_;clear n0_ n1_ n2_ n3_ n4_;clear hb hbox hg;obtain ⟨Ao48,co48,eo48⟩:=Kd.R_slice HO440.out;subst eo48;have Z49_0:w47.cell? ⟨gb443,0,none⟩=some (.slice none 0 0):=(bC_ BK443.out 0).trans rfl;have Z49_1:w47.cell? ⟨gb443,1,none⟩=some (.int .i64 0):=(bC_ BK443.out 1).trans rfl;have Z49_2:w47.cell? ⟨gb443,2,none⟩=some (.bool false):=(bC_ BK443.out 2).trans rfl;have Y49_0:=bF_ BK443.out 0;have Y49_1:=bF_ BK443.out 1;have Y49_2:=bF_ BK443.out 2)|((with_reducible refine gC_ (f:=16) rfl ?_);refine goesL_ (some 14) rfl rfl Tryd.func16 (by kernel_rfl) rfl #[.agg #[.slice Ao48 t438.length co48,.int .i64 t441,.bool t442]] rfl (by (try simp only [List.map_toArray,List.map_cons,List.map_nil]);first|done|rfl|(simp only [List.length_drop,List.length_take];rfl)) ?_;(with_reducible refine (impl_ServerOk.calls k _ _ t438 t441 t442 false _ ?side1 ?side2 A4.out ?side3).mono ?_);(case side1=>refine (Kd.R_reads' (e:=44) (base:=w.heap.size) (ok:=fun k_=>True) (n:=t438.length) (c:=co48) ?_).2.2;exact (by (with_reducible repeat (first|apply Kd.R_alloc|apply Kd.R_drewN|apply Kd.R_drew));exact (Kd.R_mono (Kd.R_far (p:=⟨gb443,2,none⟩) (Kd.R_far (p:=⟨gb443,1,none⟩) (Kd.R_far (p:=⟨gb443,0,none⟩) (Kd.R_types HO440.out BK443.out (by decide)) (fun _ hk=>hk.2) (.slice Ao48 t438.length co48)) (fun _ hk=>hk.2) (.int .i64 t441)) (fun _ hk=>hk.2) (.bool t442)) (fun _ h_=>h_.1))));(case side2=>exact (Kd.R_reads' HO440.out).2.1);(case side3=>exact Glob.below HG.out (by repeat (first|(with_reducible first|exact HB.out|apply wA_|apply pw_below_drewN|apply below_drew1|refine wS_ ?_ GE443.out)|exact HB.out)));rintro e w50 ⟨rfl,hb⟩;refine ⟨_,rfl,?_⟩;have n0_:=a_ (Kd.R_below (by (with_reducible repeat (first|apply Kd.R_alloc|apply Kd.R_drewN|apply Kd.R_drew));exact (Kd.R_mono (Kd.R_far (p:=⟨gb443,2,none⟩) (Kd.R_far (p:=⟨gb443,1,none⟩) (Kd.R_far (p:=⟨gb443,0,none⟩) (Kd.R_types HO440.out BK443.out (by decide)) (fun _ hk=>hk.2) (.slice Ao48 t438.length co48)) (fun _ hk=>hk.2) (.int .i64 t441)) (fun _ hk=>hk.2) (.bool t442)) (fun _ h_=>h_.1))) hb);have n1_:=a_ (blk_below (g:=gb443) (o:=.cells #[.slice Ao48 t438.length co48,.int .i64 t441,.bool t442] 25 (0,0)) (by (with_reducible repeat (first|refine bN_ ?_ _|refine bD_ ?_|refine bA_ ?_ _));refine blk_put (cs:=#[.slice Ao48 t438.length co48,.int .i64 t441,.bool false]) ?_ 2 _ rfl;(with_reducible repeat (first|refine bN_ ?_ _|refine bD_ ?_|refine bA_ ?_ _));refine blk_put (cs:=#[.slice Ao48 t438.length co48,.int .i64 0,.bool false]) ?_ 1 _ rfl;(with_reducible repeat (first|refine bN_ ?_ _|refine bD_ ?_|refine bA_ ?_ _));refine blk_put (cs:=#[.slice none 0 0,.int .i64 0,.bool false]) ?_ 0 _ rfl;(with_reducible repeat (first|refine bN_ ?_ _|refine bD_ ?_|refine bA_ ?_ _));exact BK443.out) hb);have n2_:=a_ (bS_ (by repeat (first|(with_reducible first|exact HB.out|apply wA_|apply pw_below_drewN|apply below_drew1|refine wS_ ?_ GE443.out)|exact HB.out)) hb);clear HO440;clear BK443;clear HB;have HO440:=n0_;have BK443:=n1_;have HB:=n2_;clear n0_ n1_ n2_;(try clear hb);(try clear hb2);(try clear hk);(try clear hi);have Z51_0:w50.cell? ⟨gb443,0,none⟩=some (.slice Ao48 t438.length co48):=(bC_ BK443.out 0).trans rfl;have Z51_1:w50.cell? ⟨gb443,1,none⟩=some (.int .i64 t441):=(bC_ BK443.out 1).trans rfl;have Z51_2:w50.cell? ⟨gb443,2,none⟩=some (.bool t442):=(bC_ BK443.out 2).trans rfl;have Y51_0:=bF_ BK443.out 0;have Y51_1:=bF_ BK443.out 1;have Y51_2:=bF_ BK443.out 2)|((with_reducible refine gC_ (f:=17) rfl ?_);refine goesL_ (some 17) rfl rfl Tryd.func17 (by kernel_rfl) rfl #[.agg #[.slice Ao48 t438.length co48,.int .i64 t441,.bool t442]] rfl (by (try simp only [List.map_toArray,List.map_cons,List.map_nil]);first|done|rfl|(simp only [List.length_drop,List.length_take];rfl)) ?_;(with_reducible refine (spec_ServerOk.calls k _ _ t438 t441 t442 t445 _ ?side1 ?side2 A5.out).mono ?_);(case side1=>repeat (first|exact (Kd.R_reads' HO440.out).2.2|(with_reducible refine Kd.C_alloc ?_ _)|(with_reducible refine Kd.C_drewN ?_ _)|(with_reducible refine Kd.C_drew ?_)));(case side2=>exact (Kd.R_reads' HO440.out).2.1);rintro e w52 ⟨rfl,hb⟩;refine ⟨_,rfl,?_⟩;have n0_:=a_ (Kd.R_below (by (with_reducible repeat (first|apply Kd.R_alloc|apply Kd.R_drewN|apply Kd.R_drew));exact HO440.out) hb);have n1_:=a_ (blk_below (g:=gb443) (o:=.cells #[.slice Ao48 t438.length co48,.int .i64 t441,.bool t442] 25 (0,0)) (by (with_reducible repeat (first|refine bN_ ?_ _|refine bD_ ?_|refine bA_ ?_ _));exact BK443.out) hb);have n2_:=a_ (bS_ (by repeat (first|(with_reducible first|exact HB.out|apply wA_|apply pw_below_drewN|apply below_drew1|refine wS_ ?_ GE443.out)|exact HB.out)) hb);clear HO440;clear BK443;clear HB;have HO440:=n0_;have BK443:=n1_;have HB:=n2_;clear n0_ n1_ n2_;(try clear hb);(try clear hb2);(try clear hk);(try clear hi);have Z53_0:w52.cell? ⟨gb443,0,none⟩=some (.slice Ao48 t438.length co48):=(bC_ BK443.out 0).trans rfl;have Z53_1:w52.cell? ⟨gb443,1,none⟩=some (.int .i64 t441):=(bC_ BK443.out 1).trans rfl;have Z53_2:w52.cell? ⟨gb443,2,none⟩=some (.bool t442):=(bC_ BK443.out 2).trans rfl;have Y53_0:=bF_ BK443.out 0;have Y53_1:=bF_ BK443.out 1;have Y53_2:=bF_ BK443.out 2)|((with_reducible refine gC_ (f:=17) rfl ?_);refine goesL_ (some 25) rfl rfl Tryd.func17 (by kernel_rfl) rfl #[.agg #[.slice Ao48 t438.length co48,.int .i64 t441,.bool t442]] rfl (by (try simp only [List.map_toArray,List.map_cons,List.map_nil]);first|done|rfl|(simp only [List.length_drop,List.length_take];rfl)) ?_;(with_reducible refine (spec_ServerOk.calls k _ _ t438 t441 t442 t446 _ ?side1 ?side2 A45.out).mono ?_);(case side1=>repeat (first|exact (Kd.R_reads' HO440.out).2.2|(with_reducible refine Kd.C_alloc ?_ _)|(with_reducible refine Kd.C_drewN ?_ _)|(with_reducible refine Kd.C_drew ?_)));(case side2=>exact (Kd.R_reads' HO440.out).2.1);rintro e w54 ⟨rfl,hb⟩;refine ⟨_,rfl,?_⟩;have n0_:=a_ (Kd.R_below (by (with_reducible repeat (first|apply Kd.R_alloc|apply Kd.R_drewN|apply Kd.R_drew));exact HO440.out) hb);have n1_:=a_ (blk_below (g:=gb443) (o:=.cells #[.slice Ao48 t438.length co48,.int .i64 t441,.bool t442] 25 (0,0)) (by (with_reducible repeat (first|refine bN_ ?_ _|refine bD_ ?_|refine bA_ ?_ _));exact BK443.out) hb);have n2_:=a_ (bS_ (by repeat (first|(with_reducible first|exact HB.out|apply wA_|apply pw_below_drewN|apply below_drew1|refine wS_ ?_ GE443.out)|exact HB.out)) hb);clear HO440;clear BK443;clear HB;have HO440:=n0_;have BK443:=n1_;have HB:=n2_;clear n0_ n1_ n2_;(try clear hb);(try clear hb2);(try clear hk);(try clear hi)))
    go_ret
    exact ⟨by first|rfl|(simp [errW_none,errW_some] <;> rfl)|(simp [*,errW_none,errW_some] <;> rfl),by repeat (first|(with_reducible first|exact HB.out|apply wA_|apply pw_below_drewN|apply below_drew1|refine wS_ ?_ GE443.out)|exact HB.out)⟩

def laws_FnServerForm.Pure:Prop:=∀ (l0:List Int),l0.length≤maxLen→l0.length * 1≤140737488351232→(∀ x∈l0,(Lit.int .u8 x).wf=true)→∃ k,laws_FnServerForm.f k l0=some true
theorem laws_FnServerForm.walk (P:laws_FnServerForm.Pure) (a0:Option Addr) (len0 cap0:Nat) (z0:List Int) (w:World) (w0:(a0=none∧len0=0∧cap0=0∧z0=[])∨∃ x,a0=some x∧len0≤cap0∧cap0≤maxLen∧z0.length=cap0∧(∀ i,i < z0.length→w.cell? (x.add i)=some (.int .u8 (z0.getD i 0)))∧∀ n∈z0,(Lit.int .u8 n).wf=true) (y0:len0 * 1≤140737488351232) (hG:Glob w) :
  Calls Tryd.prog 3 #[.slice a0 len0 cap0] w fun e w'=>e=.returned (.bool true)∧Below w.heap.size w w':=by
 obtain ⟨l0,rfl,hr0,hm0,hw0,hc0⟩:=ReadsInt.ofRowC w0
 obtain ⟨k,h⟩:=P l0 hm0 y0 hw0
 refine (laws_FnServerForm.calls k _ _ l0 true w (Kd.C_of_reads (d:=(0:Int)) (h1:=fun _=>rfl) hr0) hc0 h hG).mono ?_
 rintro e w' ⟨rfl,hd⟩
 exact ⟨rfl,hd⟩
end Go.Proofs.YtdpklbomhdpimaaDoor.P
