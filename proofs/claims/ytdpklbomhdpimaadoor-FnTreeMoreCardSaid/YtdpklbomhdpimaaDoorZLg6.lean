/- Joined by a program (wip/shake.py): the declarations that 'YtdpklbomhdpimaaDoorCardFnTreeMore' reaches. -/
import Derived.Test.YtdpklbomhdpimaaDoorZLg5
set_option linter.unusedVariables false
set_option linter.unusedSimpArgs false
set_option linter.unusedSectionVars false
set_option maxHeartbeats 8000000
set_option maxRecDepth 100000
namespace Go.Proofs.YtdpklbomhdpimaaDoor.P
open Go.RowKit Go.Proofs.YtdpklbomhdpimaaDoorW.PrintWords Go.Proofs.YtdpklbomhdpimaaDoorW.PrintLast Go.Proofs.YtdpklbomhdpimaaDoorW.PrintMore Go.Proofs.YtdpklbomhdpimaaDoor.PL Go.Proofs.YtdpklbomhdpimaaDoor.FP
theorem plant_yes (A0:Option Addr) (c0:Nat) (l0:List S69) (w:World) (hr0:Kd.C k69 w A0 l0.length l0) (hc0:l0.length≤c0) (h:treeB l0=true) (hG:Glob w) :
  Calls Tryd.prog 93 #[.slice A0 l0.length c0] w (Planted l0 w):=by
 have hlen:=hr0.2.1
 have HC:=a_ (impl_TreeOk.calls 0 A0 c0 l0 true w hr0 hc0 (by unfold impl_TreeOk.f;rw [h]) hG)
 have HR0:=a_ hr0
 have HH:=a_ h
 clear hr0 hG h
 go_enter Tryd.func93,Tryd.ntmps93
 go_wp2_with (go_at_call 45;refine (HC.out).mono ?_;clear HC;rintro e w1 ⟨rfl,hb⟩;have HB:=a_ hb;clear hb)
 have hb1:=HB.out.size
 go_loopw [18] (fun i wr=>PlantRel l0 w w1.heap.size (w1.heap.size+1) i wr) (fun i _=>l0.length - (intOf i).toNat)
 case atStart =>
  refine ⟨0,.nil,fun _=>none,fun _=>⟨ByteArray.empty,0,0,0⟩,fun _=>0,[],0,Nat.zero_le _,rfl,⟨?_⟩,⟨?_⟩,⟨?_⟩,⟨rfl⟩,⟨HH.out⟩,⟨wA_ (wA_ HB.out _) _⟩⟩
  ·exact mem_none hb1 (bA_ (heap_alloc_new w1 (.cells (tabC fun _=>none) 165)) _) _
  ·have:=heap_alloc_new (w1.alloc (.cells (tabC fun _=>none) 165)) (.cells (lastC (fun _=>none) (fun _=>0)) 166)
   rw [World.size_alloc] at this
   exact this
  ·exact plant_none _
 case round =>
  obtain ⟨j,G,A,h,la,seen,roots,hj,rfl,HM,HL,HP,HF,HGO,HBr⟩:=hrel
  clear HH
  by_cases hlt:j < l0.length
  ·have hd1:decide ((j:Int) < (l0.length:Int))=true:=dt_ (by omega)
   have hd2:decide (j < l0.length)=true:=dt_ hlt
   obtain ⟨ad,e0,hx0,hx1,hx2⟩:=at_T69 HR0.out (j:Int) (by omega) (by omega)
   cases e0
   replace hx0:=(HBr.out.cell (bl_ w _ hx0)).trans hx0
   replace hx1:=(HBr.out.cell (bl_ w _ hx1)).trans hx1
   replace hx2:=(HBr.out.cell (bl_ w _ hx2)).trans hx2
   simp only [Int.toNat_natCast] at hx0 hx1 hx2
   have hu:=Tryd.underlying69
   have hxe:rd_T69 l0 (j:Int)=l0[j]'hlt:=by
    unfold rd_T69
    rw [List.getD_eq_getElem?_getD,show ((j:Int)).toNat=j from rfl,List.getElem?_eq_getElem hlt]
    rfl
   have htd:=List.drop_eq_getElem_cons (l:=l0) (i:=j) hlt
   have htk:=List.take_succ_eq_append_getElem (l:=l0) (i:=j) hlt
   rw [←hxe] at htd htk
   have hgo:=HGO.out
   rw [htd] at hgo
   clear HGO hxe
   generalize rd_T69 l0 (j:Int)=x at hx0 hx1 hx2 htd htk hgo
   unfold treeGo at hgo
   simp only [Bool.and_eq_true,decide_eq_true_eq] at hgo
   obtain ⟨hrow,hns,hdep,hrest⟩:=hgo
   obtain ⟨b0,b37,d0,d18⟩:=rowB_id hrow
   obtain ⟨i,hi⟩:=Int.eq_ofNat_of_zero_le b0
   obtain ⟨e,he⟩:=Int.eq_ofNat_of_zero_le d0
   have hiG:i∉G.ids:=fun hc=>hns ((HP.out.seen x.f0).2 ⟨i,hc,hi⟩)
   have heG:e≤dpth G:=by omega
   have hi37:i < 37:=by omega
   have hi0:i≠0:=by
    intro e0
    subst e0
    unfold rowB at hrow
    rw [hi] at hrow
    revert hrow
    have r0:rootB (0:Int)=false:=by decide
    have m0:madeB (0:Int)=false:=by decide
    simp [r0,m0]
   have hAi:A i=none:=by
    rcases Option.eq_none_or_eq_some (A i) with h1|⟨c,h1⟩
    ·exact h1
    ·exact absurd ((HP.out.dom i).1 (by rw [h1];simp)) hiG
   have hne3:∀ y,A y≠none→(h y).up≠i∧(h y).first≠i∧(h y).next≠i:=fun y hy =>
    ⟨fun e2=>(HM.out.cu y hy).elim (fun e3=>hi0 (e2 ▸ e3)) (fun e3=>e3 (e2 ▸ hAi)),fun e2=>(HM.out.cf y hy).elim (fun e3=>hi0 (e2 ▸ e3)) (fun e3=>e3 (e2 ▸ hAi)),fun e2=>(HM.out.cn y hy).elim (fun e3=>hi0 (e2 ▸ e3)) (fun e3=>e3 (e2 ▸ hAi))⟩
   -- the memory behind the new node
   obtain ⟨g,hg⟩:∃ g,g=wr.heap.size:=⟨_,rfl⟩
   obtain ⟨W1,hW1⟩:∃ W1,W1=(wr.alloc (.cells #[.int .i64 (i:Int),.int .i64 (e:Int),.string x.f2] 69)).alloc (.cells #[.int .i64 (i:Int),.string x.f2,.pointer none,.pointer none,.pointer none] 168):=⟨_,rfl⟩
   have nG:W1.heap[g]?=some (.cells #[.int .i64 (i:Int),.int .i64 (e:Int),.string x.f2] 69 (0,0)):=by rw [hW1,hg];exact bA_ (blk_new wr _) _
   have nB:W1.heap[g+1]?=some (.cells #[.int .i64 (i:Int),.string x.f2,.pointer none,.pointer none,.pointer none] 168 (0,0)):=by
    have:=blk_new (wr.alloc (.cells #[.int .i64 (i:Int),.int .i64 (e:Int),.string x.f2] 69)) (.cells #[.int .i64 (i:Int),.string x.f2,.pointer none,.pointer none,.pointer none] 168)
    rw [World.size_alloc] at this
    rw [hW1,hg];exact this
   have mW1:Mem W1 w.heap.size w1.heap.size A h:=by rw [hW1];exact (HM.out.alloc _).alloc _
   have lW1:W1.heap[w1.heap.size+1]?=some (.cells (lastC A la) 166 (0,0)):=by rw [hW1];exact bA_ (bA_ HL.out _) _
   have bW1:Below w.heap.size w W1:=by rw [hW1];exact wA_ (wA_ HBr.out _) _
   have hltF:=HM.out.ltF
   have hltL:=blk_lt HL.out
   have hbA:∀ y,A y≠some (g+1):=fun y hy=>by have:=HM.out.lt hy;omega
   have hgA:∀ y,A y≠some g:=fun y hy=>by have:=HM.out.lt hy;omega
   have mem2:=mW1.add hi0 hi37 hAi hne3 (b:=g+1) (t:=x.f2) hbA (by omega) (by omega) nB
   have nG2:=blk_far (p:=⟨w1.heap.size,i,none⟩) nG (show g≠w1.heap.size by omega) (.pointer (some ⟨g+1,0,none⟩))
   have nB2:=blk_far (p:=⟨w1.heap.size,i,none⟩) nB (show g+1≠w1.heap.size by omega) (.pointer (some ⟨g+1,0,none⟩))
   have lW2:=blk_far (p:=⟨w1.heap.size,i,none⟩) lW1 (show w1.heap.size+1≠w1.heap.size by omega) (.pointer (some ⟨g+1,0,none⟩))
   have bW2:Below w.heap.size w (W1.setCell ⟨w1.heap.size,i,none⟩ (.pointer (some ⟨g+1,0,none⟩))):=bW1.setCell (p:=⟨w1.heap.size,i,none⟩) hb1 _
   have cT:=mW1.cF i hi37
   have fT:=mW1.fzF i
   have HMEM:=a_ mem2
   have HNG:=a_ nG2
   have HNB:=a_ nB2
   have HLW:=a_ lW2
   have HBW:=a_ bW2
   have HHB:=a_ hbA
   have HGA:=a_ hgA
   have q0:=(bC_ nG 0).trans rfl
   have q1:=(bC_ nG 1).trans rfl
   have q2:=(bC_ nG 2).trans rfl
   have hla:∀ d,la d≠i:=fun d e2=>by
    rcases Nat.lt_or_ge d (dpth G) with hdd|hdd
    ·exact hiG (e2 ▸ (HP.out.edge d hdd ▸ sp_mem G d hdd))
    ·rcases HP.out.stale d hdd with h1|⟨h1,_⟩
     ·exact hi0 (e2 ▸ h1)
     ·exact hiG (e2 ▸ h1)
   obtain ⟨W2,hW2⟩:∃ W2,W2=(W1.setCell ⟨w1.heap.size,i,none⟩ (.pointer (some ⟨g+1,0,none⟩))).drew:=⟨_,rfl⟩
   have mem3:Mem W2 w.heap.size w1.heap.size (upA A i (g+1)) (upN h i ⟨x.f2,0,0,0⟩):=by rw [hW2];exact mem2.drew
   have nG3:W2.heap[g]?=some (.cells #[.int .i64 (i:Int),.int .i64 (e:Int),.string x.f2] 69 (0,0)):=by rw [hW2];exact nG2
   have lW3:W2.heap[w1.heap.size+1]?=some (.cells (lastC A la) 166 (0,0)):=by rw [hW2];exact lW2
   have bW3:Below w.heap.size w W2:=by rw [hW2];exact bW2.drew
   have HMEM:=a_ mem3
   have HNG:=a_ nG3
   have HLW:=a_ lW3
   have HBW:=a_ bW3
   have HLA:=a_ hla
   have r1:=(bC_ nG3 1).trans rfl
   have zL:=bF_ lW3 e
   have HE:=a_ (And.intro hi he)
   have HI:=a_ (And.intro hi0 (And.intro hiG heG))
   have HW2:=a_ hW2
   have hx0':x.f0=(i:Int):=hi
   have hx1':x.f1=(e:Int):=he
   rw [hx0'] at hx0
   rw [hx1'] at hx1
   have ne1:g≠w1.heap.size:=by omega
   have ne2:g≠w1.heap.size+1:=by omega
   have ne3:w1.heap.size≠g:=fun e=>ne1 e.symm
   have ne4:w1.heap.size+1≠g:=fun e=>ne2 e.symm
   have i37:(i:Int) < 37:=by omega
   have i0':0≤(i:Int):=by omega
   have e0':0≤(e:Int):=by omega
   have e18:(e:Int)≤18:=by omega
   have e19:(e:Int) < 19:=by omega
   have HW1:=a_ hW1
   have HG:=a_ hg
   rw [hx0',hx1'] at hrest
   have HREST:=a_ hrest
   have HROW:=a_ hrow
   have HTD:=a_ (And.intro htd htk)
   have HJ:=a_ (And.intro hlt hlen)
   have HGA:=a_ hgA
   have ce:=(bC_ lW3 e).trans (lastC_get A la e (by omega))
   clear hrest hdep hns b0 b37 d0 d18 hi he hiG heG hi37 hi0 hAi hne3 hx0' hx1' nG nB mW1 lW1 bW1 hltF hltL hbA hgA mem2 nG2 nB2 lW2 bW2 htd htk HM HL HBr hW1 hg hj mem3 nG3 lW3 bW3 hla hW2
   have HROW:=a_ hrow
   clear hrow
   go_wp2
   rw [←HG.out,←HW1.out]
   go_region
   rw [←HW2.out]
   clear q0 q1 q2 cT fT hx0 hx1 hx2
   rcases Nat.eq_zero_or_pos e with e00|epos
   ·
    have hd3:decide ((0:Int) < (e:Int))=false:=df_ (by omega)
    have hd4:decide (0 < e)=false:=df_ (by omega)
    have HR:Aside0 (rootB (i:Int)=true):=⟨by
     by_cases hrt:rootB x.f0=true
     ·rw [←HE.out.1];exact hrt
     ·exfalso
      have hrow:=HROW.out
      unfold rowB at hrow
      rw [if_neg hrt] at hrow
      simp only [Bool.and_eq_true,decide_eq_true_eq] at hrow
      have:=HE.out.2
      omega⟩
    have HE0:=a_ e00
    clear e00
    go_wp2
    have hrest:=HREST.out
    rw [if_pos HR.out,Bool.and_eq_true,decide_eq_true_eq] at hrest
    refine ⟨?_,?_⟩
    ·have hp:PlantOk (snoc i x.f2 e G) (upA A i (g+1)) (upN h i ⟨x.f2,0,0,0⟩) (upL la e i) ((i:Int)::seen) (roots+1):=by
      rw [show e=0 from HE0.out]
      exact plant_root (b:=g+1) (t:=x.f2) HP.out HI.out.1 HI.out.2.1 hrest.1
     exact plant_next HE.out HI.out.2.2 (by omega) HJ.out.1 HLA.out (by omega) (by omega) HMEM.out HLW.out hp HF.out HTD.out.2 hrest.2 HBW.out
    ·show l0.length - (j+1) < l0.length - j
     omega
   ·have hd3:decide ((0:Int) < (e:Int))=true:=dt_ (by omega)
    have hd4:decide (0 < e)=true:=dt_ (by omega)
    have hu1:la (e - 1)=sp (e - 1) G:=HP.out.edge (e - 1) (by have:=HI.out.2.2;omega)
    have hum:sp (e - 1) G∈G.ids:=sp_mem G (e - 1) (by have:=HI.out.2.2;omega)
    obtain ⟨u,hue⟩:∃ u,u=sp (e - 1) G:=⟨_,rfl⟩
    rw [←hue] at hu1 hum
    obtain ⟨bu,hbu⟩:=Option.ne_none_iff_exists'.1 ((HP.out.dom u).2 hum)
    have hui:u≠i:=fun e2=>HI.out.2.1 (e2 ▸ hum)
    have cu:=(bC_ HLW.out (e - 1)).trans (lastC_get A la (e - 1) (by omega))
    rw [hu1,hbu,pa_some] at cu
    have hA'u:upA A i (g+1) u=some bu:=by unfold upA;rw [if_neg hui,hbu]
    have hA'i:upA A i (g+1) i=some (g+1):=if_pos rfl
    have hnr:rootB (i:Int)=false:=by
     by_cases hrt:rootB x.f0=true
     ·exfalso
      have hrow:=HROW.out
      unfold rowB at hrow
      rw [if_pos hrt] at hrow
      simp only [Bool.and_eq_true,decide_eq_true_eq] at hrow
      have:=HE.out.2
      have:=hrow.1
      omega
     ·rw [←HE.out.1];simpa using hrt
    have hrest:=HREST.out
    rw [if_neg (by rw [hnr];decide)] at hrest
    have HREST2:=a_ hrest
    have hp:=plant_made (b:=g+1) (t:=x.f2) (e:=e - 1) HP.out HI.out.1 HI.out.2.1 (by have:=HI.out.2.2;omega)
    rw [show e - 1+1=e by omega,←hue] at hp
    have HPM:=a_ hp
    have HAU:=a_ hA'u
    have HAI:=a_ hA'i
    have e191:((e - 1:Nat):Int) < 19:=by omega
    have HGB:Aside0 (∀ y,upA A i (g+1) y≠some g):=⟨fun y hy=>by
     unfold upA at hy
     split at hy
     ·have:=sj_ hy;omega
     ·exact HGA.out y hy⟩
    clear hrest hp hbu hnr hA'u hA'i hum hu1
    by_cases hlt2:e < dpth G
    ·
     have hm:sp e G∈G.ids:=sp_mem G e hlt2
     obtain ⟨a,hae⟩:∃ a,a=sp e G:=⟨_,rfl⟩
     have hla1:la e=a:=(HP.out.edge e hlt2).trans hae.symm
     rw [←hae] at hm
     obtain ⟨ba,hba⟩:=Option.ne_none_iff_exists'.1 ((HP.out.dom a).2 hm)
     have hai:a≠i:=fun e2=>HI.out.2.1 (e2 ▸ hm)
     have hA'a:upA A i (g+1) a=some ba:=by unfold upA;rw [if_neg hai,hba]
     have hau:(upN h i ⟨x.f2,0,0,0⟩ a).up=u:=by
      rw [upN_out hai,hae,hue]
      have:=reptop_sp G (e - 1) HP.out.rep (by omega)
      rw [show e - 1+1=e by omega] at this
      exact this
     rw [hla1,hba,pa_some] at ce
     have c2:=HMEM.out.c2 hA'a
     rw [hau,HAU.out,pa_some] at c2
     have hN:=neS ⟨bu,0,none⟩ W2
     have HPM2:=HPM.out
     rw [if_pos hlt2,←hae] at HPM2
     have HPM3:=a_ HPM2
     have HAT:=a_ (attach_behind HMEM.out HAI.out HAU.out hA'a hai)
     clear HPM2 hm hba hA'a hau hlt2 hla1
     go_wp2_with (go_at_call 130;refine (HAT.out).mono ?_;clear HAT;rintro en W3 ⟨⟨v,rfl⟩,hm3,hb3,hk3⟩;have hL3:=(hk3 (w1.heap.size+1) (fun y=>HMEM.out.no_last HLW.out y)).trans HLW.out;have hG3:=(hk3 g HGB.out).trans HNG.out;have hz3:=bF_ hL3 e;have ce3:=(bC_ hL3 e).trans (lastC_get A la e (by omega));have r3:=(bC_ hG3 1).trans rfl;have HM3:=a_ hm3;have HB3:=a_ hb3;have HL3:=a_ hL3;clear hm3 hb3 hk3 hL3 hG3)
     refine ⟨plant_next HE.out HI.out.2.2 (by omega) HJ.out.1 HLA.out (by omega) (by omega) HM3.out HL3.out HPM3.out HF.out HTD.out.2 HREST2.out (HBW.out.trans HB3.out),?_⟩
     show l0.length - (j+1) < l0.length - j
     omega
    ·have HAT:=a_ (attach_first HMEM.out HAI.out HAU.out hui)
     have HPM2:=HPM.out
     rw [if_neg hlt2] at HPM2
     have HPM3:=a_ HPM2
     have hst:=HP.out.stale e (by omega)
     clear HPM2
     by_cases ha0:la e=0
     ·rw [ha0,show A 0=none from Option.not_isSome_iff_eq_none.1 (fun hs=>by
       obtain ⟨c,hc⟩:=Option.isSome_iff_exists.1 hs
       exact HP.out.rep.ne0 0 ((HP.out.dom 0).1 (by rw [hc];simp)) rfl),pa_none] at ce
      clear hst hlt2 ha0
      go_wp2_with (go_at_call 130;refine (HAT.out).mono ?_;clear HAT;rintro en W3 ⟨⟨v,rfl⟩,hm3,hb3,hk3⟩;have hL3:=(hk3 (w1.heap.size+1) (fun y=>HMEM.out.no_last HLW.out y)).trans HLW.out;have hG3:=(hk3 g HGB.out).trans HNG.out;have hz3:=bF_ hL3 e;have ce3:=(bC_ hL3 e).trans (lastC_get A la e (by omega));have r3:=(bC_ hG3 1).trans rfl;have HM3:=a_ hm3;have HB3:=a_ hb3;have HL3:=a_ hL3;clear hm3 hb3 hk3 hL3 hG3)
      refine ⟨plant_next HE.out HI.out.2.2 (by omega) HJ.out.1 HLA.out (by omega) (by omega) HM3.out HL3.out HPM3.out HF.out HTD.out.2 HREST2.out (HBW.out.trans HB3.out),?_⟩
      show l0.length - (j+1) < l0.length - j
      omega
     ·obtain ⟨hm,hne⟩:=hst.resolve_left ha0
      have hne:=hne (by have:=HI.out.2.2;omega)
      rw [←hue] at hne
      obtain ⟨a,hae⟩:∃ a,a=la e:=⟨_,rfl⟩
      rw [←hae] at hm hne ha0 ce
      obtain ⟨ba,hba⟩:=Option.ne_none_iff_exists'.1 ((HP.out.dom a).2 hm)
      have hai:a≠i:=fun e2=>HI.out.2.1 (e2 ▸ hm)
      have hA'a:upA A i (g+1) a=some ba:=by unfold upA;rw [if_neg hai,hba]
      have hau:(upN h i ⟨x.f2,0,0,0⟩ a).up=(h a).up:=by rw [upN_out hai]
      rw [hba,pa_some] at ce
      have c2:=HMEM.out.c2 hA'a
      rw [hau] at c2
      have hcu:=HMEM.out.cu a (by rw [hA'a];simp)
      rw [hau] at hcu
      obtain ⟨q,hq⟩:∃ q,q=(h a).up:=⟨_,rfl⟩
      rw [←hq] at c2 hcu hne
      by_cases hq0:q=0
      ·rw [hq0,HMEM.out.z,pa_none] at c2
       have hN:=neZ ⟨bu,0,none⟩ W2
       clear hm hba hA'a hau hlt2 hst ha0 hae hcu hq hne hq0
       go_wp2_with (go_at_call 130;refine (HAT.out).mono ?_;clear HAT;rintro en W3 ⟨⟨v,rfl⟩,hm3,hb3,hk3⟩;have hL3:=(hk3 (w1.heap.size+1) (fun y=>HMEM.out.no_last HLW.out y)).trans HLW.out;have hG3:=(hk3 g HGB.out).trans HNG.out;have hz3:=bF_ hL3 e;have ce3:=(bC_ hL3 e).trans (lastC_get A la e (by omega));have r3:=(bC_ hG3 1).trans rfl;have HM3:=a_ hm3;have HB3:=a_ hb3;have HL3:=a_ hL3;clear hm3 hb3 hk3 hL3 hG3)
       refine ⟨plant_next HE.out HI.out.2.2 (by omega) HJ.out.1 HLA.out (by omega) (by omega) HM3.out HL3.out HPM3.out HF.out HTD.out.2 HREST2.out (HBW.out.trans HB3.out),?_⟩
       show l0.length - (j+1) < l0.length - j
       omega
      ·obtain ⟨bq,hbq⟩:=Option.ne_none_iff_exists'.1 (hcu.resolve_left hq0)
       rw [hbq,pa_some] at c2
       have hN:=HMEM.out.nen hbq HAU.out hne
       clear hm hba hA'a hau hlt2 hst ha0 hae hcu hq hne hq0 hbq
       go_wp2_with (go_at_call 130;refine (HAT.out).mono ?_;clear HAT;rintro en W3 ⟨⟨v,rfl⟩,hm3,hb3,hk3⟩;have hL3:=(hk3 (w1.heap.size+1) (fun y=>HMEM.out.no_last HLW.out y)).trans HLW.out;have hG3:=(hk3 g HGB.out).trans HNG.out;have hz3:=bF_ hL3 e;have ce3:=(bC_ hL3 e).trans (lastC_get A la e (by omega));have r3:=(bC_ hG3 1).trans rfl;have HM3:=a_ hm3;have HB3:=a_ hb3;have HL3:=a_ hL3;clear hm3 hb3 hk3 hL3 hG3)
       refine ⟨plant_next HE.out HI.out.2.2 (by omega) HJ.out.1 HLA.out (by omega) (by omega) HM3.out HL3.out HPM3.out HF.out HTD.out.2 HREST2.out (HBW.out.trans HB3.out),?_⟩
       show l0.length - (j+1) < l0.length - j
       omega
  ·have hd1:decide ((j:Int) < (l0.length:Int))=false:=df_ (by omega)
   have hd2:decide (j < l0.length)=false:=df_ hlt
   have hjl:j=l0.length:=by omega
   have hgo:=HGO.out
   rw [List.drop_eq_nil_of_le (by omega)] at hgo
   have h3:roots=3:=by simpa [treeGo] using hgo
   have HF2:=a_ (show G.fl 0=l0 by rw [HF.out,hjl,List.take_length])
   have HT2:=a_ (show G.tops=[1,2,3] by
    obtain ⟨n,hn,ht⟩:=HP.out.tops
    rw [ht,show n=3 by omega];rfl)
   clear hgo h3 hjl HF HGO hlt
   go_wp2
   go_ret2
   exact ⟨_,G,A,h,rfl,HM.out,HP.out.rep,HP.out.nd,HP.out.dom,HT2.out,HF2.out,HBr.out⟩
def fnd (A:Nat→Option Nat) (x:Int):Nat:=if (findA A x).isSome then x.toNat else 0
theorem fnd_eq {w:World} {n0 F:Nat} {A:Nat→Option Nat} {h:Nat→Nd} (m:Mem w n0 F A h) (x:Int):findA A x=A (fnd A x):=by
 unfold fnd
 cases hf:findA A x with
 | none=>simp [m.z]
 | some b =>
  simp only [Option.isSome_some,if_true]
  unfold findA at hf
  split at hf
  ·exact hf.symm
  ·cases hf
theorem fnd_ok {w:World} {n0 F:Nat} {A:Nat→Option Nat} {h:Nat→Nd} (m:Mem w n0 F A h) (x:Int):fnd A x=0∨A (fnd A x)≠none:=by
 by_cases h0:(findA A x).isSome
 ·exact Or.inr (by rw [←fnd_eq m x];exact Option.isSome_iff_ne_none.1 h0)
 ·exact Or.inl (by unfold fnd;rw [if_neg h0])
theorem fnd_zero {w:World} {n0 F:Nat} {A:Nat→Option Nat} {h:Nat→Nd} (m:Mem w n0 F A h) (x:Int) (e:fnd A x=0):findA A x=none:=by rw [fnd_eq m x,e,m.z]
theorem fnd_int {w:World} {n0 F:Nat} {A:Nat→Option Nat} {h:Nat→Nd} (m:Mem w n0 F A h) (x:Int) (e:fnd A x≠0):(fnd A x:Int)=x:=by
 have h1:(findA A x).isSome:=by
  by_cases h0:(findA A x).isSome
  ·exact h0
  ·exact absurd (by unfold fnd;rw [if_neg h0]) e
 have h2:fnd A x=x.toNat:=by unfold fnd;rw [if_pos h1]
 have h3:0≤x:=by
  unfold findA at h1
  split at h1
  ·omega
  ·cases h1
 rw [h2];omega
def nearN (A:Nat→Option Nat) (h:Nat→Nd) (id up at_:Int):Nat×Nat :=
 if fnd A up=0 then (fnd A 3,0)
 else if fnd A at_=0 then (fnd A up,0)
 else if (h (fnd A at_)).up≠fnd A up then (fnd A up,0)
 else if at_=id then (fnd A up,0)
 else (fnd A up,fnd A at_)
theorem near_any {w:World} {n0 F:Nat} {A:Nat→Option Nat} {h:Nat→Nd} (m:Mem w n0 F A h) (id up at_:Int) :
  Calls Tryd.prog 149 #[.pointer (some ⟨F,0,none⟩),.int .i64 id,.int .i64 up,.int .i64 at_] w fun e w'=>e=.returned (.tuple #[.pointer (pa (A (nearN A h id up at_).1)),.pointer (pa (A (nearN A h id up at_).2))])∧w'=w:=by
 have F1:=a_ (find_any m up)
 have F2:=a_ (find_any m at_)
 have F3:=a_ (find_any m 3)
 have z:=m.z
 by_cases h1:fnd A up=0
 ·have hn:nearN A h id up at_=(fnd A 3,0):=by unfold nearN;rw [if_pos h1]
  rw [hn,z,←fnd_eq m 3,pa_none]
  rw [fnd_zero m up h1,pa_none] at F1
  clear m h1 hn z
  go_enter Tryd.func149,Tryd.ntmps149
  go_wp2_with (go_at_call 131;first|(refine (F1.out).mono ?_;clear F1;rintro en w1 ⟨rfl,rfl⟩)|(refine (F3.out).mono ?_;clear F3;rintro en w1 ⟨rfl,rfl⟩))
  go_ret2
  exact ⟨rfl,rfl⟩
 ·obtain ⟨b1,hb1⟩:=Option.ne_none_iff_exists'.1 ((fnd_ok m up).resolve_left h1)
  rw [fnd_eq m up,hb1,pa_some] at F1
  by_cases h2:fnd A at_=0
  ·have hn:nearN A h id up at_=(fnd A up,0):=by unfold nearN;rw [if_neg h1,if_pos h2]
   rw [hn,z,hb1,pa_none,pa_some]
   rw [fnd_zero m at_ h2,pa_none] at F2
   clear m h1 h2 hn z F3 hb1
   go_enter Tryd.func149,Tryd.ntmps149
   go_wp2_with (go_at_call 131;first|(refine (F1.out).mono ?_;clear F1;rintro en w1 ⟨rfl,rfl⟩)|(refine (F2.out).mono ?_;clear F2;rintro en w1 ⟨rfl,rfl⟩))
   go_ret2
   exact ⟨rfl,rfl⟩
  ·obtain ⟨b2,hb2⟩:=Option.ne_none_iff_exists'.1 ((fnd_ok m at_).resolve_left h2)
   rw [fnd_eq m at_,hb2,pa_some] at F2
   have c2:=m.c2 hb2
   have c0:=m.c0 hb2
   have hi2:=fnd_int m at_ h2
   rw [hi2] at c0
   by_cases h3:(h (fnd A at_)).up≠fnd A up
   ·have hn:nearN A h id up at_=(fnd A up,0):=by unfold nearN;rw [if_neg h1,if_neg h2,if_pos h3]
    rw [hn,z,hb1,pa_none,pa_some]
    obtain ⟨q,hq⟩:∃ q,q=(h (fnd A at_)).up:=⟨_,rfl⟩
    have hcu:=m.cu (fnd A at_) (by rw [hb2];simp)
    rw [←hq] at c2 h3 hcu
    by_cases hq0:q=0
    ·rw [hq0,z,pa_none] at c2
     have hN:=neZ ⟨b1,0,none⟩ w
     clear m h1 h2 hn z F3 hb1 hb2 h3 hq hq0 hcu hi2
     go_enter Tryd.func149,Tryd.ntmps149
     go_wp2_with (go_at_call 131;first|(refine (F1.out).mono ?_;clear F1;rintro en w1 ⟨rfl,rfl⟩)|(refine (F2.out).mono ?_;clear F2;rintro en w1 ⟨rfl,rfl⟩))
     go_ret2
     exact ⟨rfl,rfl⟩
    ·obtain ⟨bq,hbq⟩:=Option.ne_none_iff_exists'.1 (hcu.resolve_left hq0)
     rw [hbq,pa_some] at c2
     have hN:=m.nen hbq hb1 h3
     clear m h1 h2 hn z F3 hb1 hb2 h3 hq hq0 hcu hbq hi2
     go_enter Tryd.func149,Tryd.ntmps149
     go_wp2_with (go_at_call 131;first|(refine (F1.out).mono ?_;clear F1;rintro en w1 ⟨rfl,rfl⟩)|(refine (F2.out).mono ?_;clear F2;rintro en w1 ⟨rfl,rfl⟩))
     go_ret2
     exact ⟨rfl,rfl⟩
   ·have h3':(h (fnd A at_)).up=fnd A up:=Decidable.of_not_not h3
    rw [h3',hb1,pa_some] at c2
    have hN:=neS ⟨b1,0,none⟩ w
    by_cases h4:at_=id
    ·have hn:nearN A h id up at_=(fnd A up,0):=by unfold nearN;rw [if_neg h1,if_neg h2,if_neg h3,if_pos h4]
     rw [hn,z,hb1,pa_none,pa_some]
     subst h4
     have hd:(at_==at_)=true:=beq_self_eq_true at_
     clear m h1 h2 hn z F3 hb1 hb2 h3 h3' hi2
     go_enter Tryd.func149,Tryd.ntmps149
     go_wp2_with (go_at_call 131;first|(refine (F1.out).mono ?_;clear F1;rintro en w1 ⟨rfl,rfl⟩)|(refine (F2.out).mono ?_;clear F2;rintro en w1 ⟨rfl,rfl⟩))
     go_ret2
     exact ⟨rfl,rfl⟩
    ·have hn:nearN A h id up at_=(fnd A up,fnd A at_):=by unfold nearN;rw [if_neg h1,if_neg h2,if_neg h3,if_neg h4]
     rw [hn,hb1,hb2,pa_some,pa_some]
     have hd:(at_==id)=false:=beq_eq_false_iff_ne.2 h4
     clear m h1 h2 hn z F3 hb1 hb2 h3 h3' h4 hi2
     go_enter Tryd.func149,Tryd.ntmps149
     go_wp2_with (go_at_call 131;first|(refine (F1.out).mono ?_;clear F1;rintro en w1 ⟨rfl,rfl⟩)|(refine (F2.out).mono ?_;clear F2;rintro en w1 ⟨rfl,rfl⟩))
     go_ret2
     exact ⟨rfl,rfl⟩
theorem as_hit {P:Program} {t xT:TypeId} {fs:Array Field} (hu:P.underlying t=some (.struct fs)) (v:Value) (w:World):(Instr.typeAssert (.iface t v) xT t true).run P w=.ok (.tuple #[v,.bool true]) w:=by
 simp [Instr.typeAssert,run_underlying hu]
theorem as_miss {P:Program} {t t' xT:TypeId} {fs:Array Field} {z:Value} (hu:P.underlying t'=some (.struct fs)) (hz:(P.info? t').map (·.zero)=some (some z)) (hne:t≠t') (v:Value) (w:World):(Instr.typeAssert (.iface t v) xT t' true).run P w=.ok (.tuple #[z,.bool false]) w:=by
 obtain ⟨j,hj,hz'⟩:=Option.map_eq_some_iff.1 hz
 simp [Instr.typeAssert,run_underlying hu,typeInfo,zeroValue,hj,hz',hne]
@[go_sem]
theorem as_mm (v:Value) (w:World):(Instr.typeAssert (.iface 156 v) 118 156 true).run Tryd.prog w=.ok (.tuple #[v,.bool true]) w:=as_hit Tryd.underlying156 v w
@[go_sem]
theorem as_tt (v:Value) (w:World):(Instr.typeAssert (.iface 159 v) 118 159 true).run Tryd.prog w=.ok (.tuple #[v,.bool true]) w:=as_hit Tryd.underlying159 v w
@[go_sem]
theorem as_vv (v:Value) (w:World):(Instr.typeAssert (.iface 161 v) 118 161 true).run Tryd.prog w=.ok (.tuple #[v,.bool true]) w:=as_hit Tryd.underlying161 v w
def zM:Value:=.agg #[.int .i64 0,.int .i64 0,.int .i64 0,.string ByteArray.empty]
def zT:Value:=.agg #[.int .i64 0,.string ByteArray.empty]
def zV:Value:=.agg #[.int .i64 0,.int .i64 0,.int .i64 0]
@[go_sem]
theorem as_tm (v:Value) (w:World):(Instr.typeAssert (.iface 159 v) 118 156 true).run Tryd.prog w=.ok (.tuple #[zM,.bool false]) w:=as_miss Tryd.underlying156 (by kernel_rfl) (by decide) v w
@[go_sem]
theorem as_vm (v:Value) (w:World):(Instr.typeAssert (.iface 161 v) 118 156 true).run Tryd.prog w=.ok (.tuple #[zM,.bool false]) w:=as_miss Tryd.underlying156 (by kernel_rfl) (by decide) v w
@[go_sem]
theorem as_mt (v:Value) (w:World):(Instr.typeAssert (.iface 156 v) 118 159 true).run Tryd.prog w=.ok (.tuple #[zT,.bool false]) w:=as_miss Tryd.underlying159 (by kernel_rfl) (by decide) v w
@[go_sem]
theorem as_vt (v:Value) (w:World):(Instr.typeAssert (.iface 161 v) 118 159 true).run Tryd.prog w=.ok (.tuple #[zT,.bool false]) w:=as_miss Tryd.underlying159 (by kernel_rfl) (by decide) v w
@[go_sem]
theorem as_mv (v:Value) (w:World):(Instr.typeAssert (.iface 156 v) 118 161 true).run Tryd.prog w=.ok (.tuple #[zV,.bool false]) w:=as_miss Tryd.underlying161 (by kernel_rfl) (by decide) v w
@[go_sem]
theorem as_tv (v:Value) (w:World):(Instr.typeAssert (.iface 159 v) 118 161 true).run Tryd.prog w=.ok (.tuple #[zV,.bool false]) w:=as_miss Tryd.underlying161 (by kernel_rfl) (by decide) v w
def whereR (A:Nat→Option Nat) (p:Nat×Nat) (ok:Bool):Ending:=.returned (.tuple #[.pointer (pa (A p.1)),.pointer (pa (A p.2)),.bool ok])
def WherePost (w:World) (A:Nat→Option Nat) (p:Nat×Nat) (ok:Bool) (e:Ending) (w':World):Prop:=e=whereR A p ok∧Below w.heap.size w w'
theorem where_make {w:World} {n0 F:Nat} {A:Nat→Option Nat} {h:Nat→Nd} (m:Mem w n0 F A h) (id up at_:Int) (s:ByteArray) :
  Calls Tryd.prog 132 #[.pointer (some ⟨F,0,none⟩),.iface 156 (.agg #[.int .i64 id,.int .i64 up,.int .i64 at_,.string s])] w (WherePost w A (if fnd A id=0 then nearN A h id up at_ else (0,0)) (decide (fnd A id=0))):=by
 have z:=m.z
 have HM:=a_ m
 by_cases h1:fnd A id=0
 ·have F1:=a_ (fnd_zero m id h1)
  rw [if_pos h1,dt_ h1]
  obtain ⟨p,hp⟩:∃ p,p=nearN A h id up at_:=⟨_,rfl⟩
  rw [←hp]
  have HP:=a_ hp
  clear m h1 z hp
  go_enter Tryd.func132,Tryd.ntmps132
  go_wp2_with (first|(go_at_call 131;with_reducible refine (find_any (HM.out.alloc _) id).mono ?_;rw [F1.out,pa_none];rintro en w1 ⟨rfl,rfl⟩)|(go_at_call 149;with_reducible refine (near_any (HM.out.alloc _) id up at_).mono ?_;rw [←HP.out];rintro en w1 ⟨rfl,rfl⟩))
  go_ret3
  exact ⟨rfl,below_box0 w _⟩
 ·obtain ⟨b1,hb1⟩:=Option.ne_none_iff_exists'.1 ((fnd_ok m id).resolve_left h1)
  have F1:=a_ ((fnd_eq m id).trans hb1)
  rw [if_neg h1,df_ h1]
  have HZ:=a_ z
  clear m h1 z hb1
  go_enter Tryd.func132,Tryd.ntmps132
  go_wp2_with (first|(go_at_call 131;with_reducible refine (find_any (HM.out.alloc _) id).mono ?_;rw [F1.out,pa_some];rintro en w1 ⟨rfl,rfl⟩))
  go_ret3
  exact ⟨by unfold whereR;rw [HZ.out,pa_none];rfl,below_box0 w _⟩
theorem where_move {w:World} {n0 F:Nat} {A:Nat→Option Nat} {h:Nat→Nd} (m:Mem w n0 F A h) (id up at_:Int) (k:Nat) (r:Bool) (hr:fnd A id≠0→withinF h (fnd A id) k (fnd A up)=some r) :
  Calls Tryd.prog 132 #[.pointer (some ⟨F,0,none⟩),.iface 161 (.agg #[.int .i64 id,.int .i64 up,.int .i64 at_])] w (WherePost w A (if fnd A id=0 then (0,0) else if r=true then (0,0) else nearN A h id up at_) (decide (fnd A id≠0)&&!r)):=by
 have z:=m.z
 have HM:=a_ m
 by_cases h1:fnd A id=0
 ·have F1:=a_ (fnd_zero m id h1)
  rw [if_pos h1,df_ (fun e=>e h1),Bool.false_and]
  have HZ:=a_ z
  clear m h1 z hr
  go_enter Tryd.func132,Tryd.ntmps132
  go_wp2_with (first|(go_at_call 131;with_reducible refine (find_any (HM.out.alloc _) id).mono ?_;rw [F1.out,pa_none];rintro en w1 ⟨rfl,rfl⟩))
  go_ret3
  exact ⟨by unfold whereR;rw [HZ.out,pa_none];rfl,below_box0 w _⟩
 ·obtain ⟨b1,hb1⟩:=Option.ne_none_iff_exists'.1 ((fnd_ok m id).resolve_left h1)
  have F1:=a_ ((fnd_eq m id).trans hb1)
  have F2:=a_ (fnd_eq m up)
  have HR:=a_ (hr h1)
  have HK:=a_ (fnd_ok m up)
  have HB1:=a_ hb1
  rw [if_neg h1,dt_ h1,Bool.true_and]
  have HZ:=a_ z
  obtain ⟨c,hc⟩:∃ c,c=pa (findA A id):=⟨_,rfl⟩
  obtain ⟨u,hu⟩:∃ u,u=fnd A id:=⟨_,rfl⟩
  obtain ⟨x,hx⟩:∃ x,x=fnd A up:=⟨_,rfl⟩
  rw [←hu] at HR HB1
  rw [←hx] at HR HK F2
  clear m h1 z hb1 hr hc hu hx
  cases r with
  | true =>
   rw [if_pos rfl]
   go_enter Tryd.func132,Tryd.ntmps132
   go_wp2_with (first|(go_at_call 131;with_reducible refine (find_any (HM.out.alloc _) id).mono ?_;rw [F1.out,pa_some];rintro en w1 ⟨rfl,rfl⟩)|(go_at_call 131;with_reducible refine (find_any (HM.out.alloc _) up).mono ?_;rw [F2.out];rintro en w1 ⟨rfl,rfl⟩)|(go_at_call 150;with_reducible refine (within_any (HM.out.alloc _) x u HK.out HB1.out k true HR.out).mono ?_;rintro en w1 ⟨rfl,rfl⟩))
   go_ret3
   exact ⟨by unfold whereR;rw [HZ.out,pa_none];rfl,below_box0 w _⟩
  | false =>
   rw [if_neg (by decide)]
   obtain ⟨p,hp⟩:∃ p,p=nearN A h id up at_:=⟨_,rfl⟩
   rw [←hp]
   have HP:=a_ hp
   clear hp
   go_enter Tryd.func132,Tryd.ntmps132
   go_wp2_with (first|(go_at_call 131;with_reducible refine (find_any (HM.out.alloc _) id).mono ?_;rw [F1.out,pa_some];rintro en w1 ⟨rfl,rfl⟩)|(go_at_call 131;with_reducible refine (find_any (HM.out.alloc _) up).mono ?_;rw [F2.out];rintro en w1 ⟨rfl,rfl⟩)|(go_at_call 150;with_reducible refine (within_any (HM.out.alloc _) x u HK.out HB1.out k false HR.out).mono ?_;rintro en w1 ⟨rfl,rfl⟩)|(go_at_call 149;with_reducible refine (near_any (HM.out.alloc _) id up at_).mono ?_;rw [←HP.out];rintro en w1 ⟨rfl,rfl⟩))
   go_ret3
   exact ⟨rfl,below_box0 w _⟩
structure At (w:World) (n0 F:Nat) (A:Nat→Option Nat) (h:Nat→Nd) (G:Fo):Prop where
 m:Mem w n0 F A h
 rep:RepTop h G
 nd:G.ids.Nodup
 dom:∀ x,A x≠none↔x∈G.ids
 tops:G.tops=[1,2,3]
theorem At.kept {w w':World} {n0 F:Nat} {A:Nat→Option Nat} {h:Nat→Nd} {G:Fo} (t:At w n0 F A h G) (m:Mem w' n0 F A h):At w' n0 F A h G:=⟨m,t.rep,t.nd,t.dom,t.tops⟩
theorem At.fnd {w:World} {n0 F:Nat} {A:Nat→Option Nat} {h:Nat→Nd} {G:Fo} (t:At w n0 F A h G) (x:Int):fnd A x=fndF G x:=by
 unfold P.fnd fndF findA
 by_cases hx:0≤x∧x.toNat∈G.ids
 ·obtain ⟨b,hb⟩:=Option.ne_none_iff_exists'.1 ((t.dom x.toNat).2 hx.2)
  have:=t.m.rng _ b hb
  rw [if_pos hx,if_pos (show 0≤x∧x < 37 by omega),hb]
  rfl
 ·rw [if_neg hx]
  by_cases h1:0≤x∧x < 37
  ·rw [if_pos h1]
   have:A x.toNat=none:=Decidable.byContradiction fun g=>hx ⟨h1.1,(t.dom _).1 g⟩
   rw [this];rfl
  ·rw [if_neg h1];rfl
theorem At.ok {w:World} {n0 F:Nat} {A:Nat→Option Nat} {h:Nat→Nd} {G:Fo} (t:At w n0 F A h G) {x:Nat} (hx:x∈G.ids):∃ b,A x=some b:=Option.ne_none_iff_exists'.1 ((t.dom x).2 hx)
theorem At.three {w:World} {n0 F:Nat} {A:Nat→Option Nat} {h:Nat→Nd} {G:Fo} (t:At w n0 F A h G):3∈G.tops:=by rw [t.tops];simp
theorem At.near {w:World} {n0 F:Nat} {A:Nat→Option Nat} {h:Nat→Nd} {G:Fo} (t:At w n0 F A h G) (id up at_:Int):nearN A h id up at_=nearF G id up at_:=by
 unfold nearN nearF
 rw [t.fnd up,t.fnd at_,t.fnd 3]
 by_cases h1:fndF G up=0
 ·rw [if_pos h1,if_pos h1]
  have h3:fndF G 3=3:=by
   unfold fndF
   rw [if_pos ⟨by omega,show (3:Int).toNat∈G.ids from tops_ids t.three⟩];rfl
  rw [h3]
 ·rw [if_neg h1,if_neg h1]
  by_cases h2:fndF G at_=0
  ·rw [if_pos h2,if_pos h2]
  ·rw [if_neg h2,if_neg h2,reptop_par t.rep t.nd (fndF_mem h2).1]
theorem attach_any {w:World} {n0 F:Nat} {A:Nat→Option Nat} {h:Nat→Nd} (m:Mem w n0 F A h) {i u a bi bu:Nat} (hi:A i=some bi) (hu:A u=some bu) (hui:u≠i) (ha:a=0∨A a≠none) (hai:a≠i) :
  Calls Tryd.prog 130 #[.pointer (some ⟨bi,0,none⟩),.pointer (some ⟨bu,0,none⟩),.pointer (pa (A a))] w fun e w'=>(∃ v,e=.returned v)∧Mem w' n0 F A (attachH h i u a)∧Below n0 w w':=by
 by_cases h0:a=0
 ·rw [h0,m.z,pa_none]
  exact (attach_first m hi hu hui).mono fun e w' ⟨a1,a2,a3,_⟩=>⟨a1,a2,a3⟩
 ·obtain ⟨ba,hba⟩:=Option.ne_none_iff_exists'.1 (ha.resolve_left h0)
  rw [hba,pa_some]
  exact (attach_behind m hi hu hba hai).mono fun e w' ⟨a1,a2,a3,_⟩=>⟨a1,a2,a3⟩
def ApplyPost (w:World) (n0 F:Nat) (G:Fo) (e:Ending) (w':World):Prop:=(∃ v,e=.returned v)∧(∃ A h,At w' n0 F A h G)∧Below n0 w w'
theorem apply_text_no {w:World} {n0 F:Nat} {A:Nat→Option Nat} {h:Nat→Nd} {G:Fo} (t:At w n0 F A h G) (hn0:n0≤w.heap.size) (id:Int) (s:ByteArray) (h1:fndF G id=0) :
  Calls Tryd.prog 94 #[.pointer (some ⟨F,0,none⟩),.iface 159 (.agg #[.int .i64 id,.string s])] w (ApplyPost w n0 F G):=by
 have F1:=a_ (fnd_zero t.m id ((t.fnd id).trans h1))
 have HT:=a_ t
 have HN:=a_ hn0
 clear t h1 hn0
 go_enter Tryd.func94,Tryd.ntmps94
 go_wp2_with (go_at_call 131;(with_reducible refine (find_any (HT.out.m.alloc _) id).mono ?_);rw [F1.out,pa_none];rintro en w1 ⟨rfl,rfl⟩)
 go_end0
 exact ⟨⟨_,rfl⟩,⟨A,h,HT.out.kept (HT.out.m.alloc _)⟩,(below_box0 w _).mono HN.out⟩
theorem apply_text_yes {w:World} {n0 F:Nat} {A:Nat→Option Nat} {h:Nat→Nd} {G:Fo} (t:At w n0 F A h G) (hn0:n0≤w.heap.size) (id:Int) (s:ByteArray) (i:Nat) (hi:fndF G id=i) (h1:i≠0) :
  Calls Tryd.prog 94 #[.pointer (some ⟨F,0,none⟩),.iface 159 (.agg #[.int .i64 id,.string s])] w (ApplyPost w n0 F (setF i s G)):=by
 obtain ⟨b,hb⟩:=t.ok (hi ▸ (fndF_mem (hi ▸ h1)).1)
 have F1:Aside0 (findA A id=some b):=⟨(fnd_eq t.m id).trans (by rw [t.fnd id,hi];exact hb)⟩
 have m1:=t.m.alloc (.cells #[.int .i64 id,.string s] 159)
 have c1:=m1.c1 hb
 have z1:=m1.fz hb 1
 have HB:=a_ hb
 have HT:=a_ t
 have HN:=a_ hn0
 have HM:=a_ m1
 clear t h1 hn0 hb hi m1
 go_enter Tryd.func94,Tryd.ntmps94
 go_wp2_with (go_at_call 131;(with_reducible refine (find_any (HT.out.m.alloc _) id).mono ?_);rw [F1.out,pa_some];rintro en w1 ⟨rfl,rfl⟩)
 go_end0
 refine ⟨⟨_,rfl⟩,⟨A,_,HM.out.setT HB.out s,reptop_setF HT.out.rep,by rw [setF_ids];exact HT.out.nd,fun x=>by rw [setF_ids];exact HT.out.dom x,by rw [setF_tops];exact HT.out.tops⟩,?_⟩
 exact ((below_box0 w _).mono HN.out).setCell (p:=⟨b,1,none⟩) (HT.out.m.lo i b HB.out) _
theorem apply_make_no {w:World} {n0 F:Nat} {A:Nat→Option Nat} {h:Nat→Nd} {G:Fo} (t:At w n0 F A h G) (hn0:n0≤w.heap.size) (id up at_:Int) (s:ByteArray) (h1:fndF G id≠0) :
  Calls Tryd.prog 94 #[.pointer (some ⟨F,0,none⟩),.iface 156 (.agg #[.int .i64 id,.int .i64 up,.int .i64 at_,.string s])] w (ApplyPost w n0 F G):=by
 have hz:whereR A (0,0) false=.returned (.tuple #[.pointer none,.pointer none,.bool false]):=by unfold whereR;rw [t.m.z];rfl
 have HW:=a_ (where_make (t.m.alloc (.cells #[.int .i64 id,.int .i64 up,.int .i64 at_,.string s] 156)) id up at_ s)
 rw [t.fnd id,if_neg h1,df_ h1] at HW
 have HT:=a_ t
 have HN:=a_ hn0
 have HZ:=a_ hz
 clear t h1 hn0 hz
 go_enter Tryd.func94,Tryd.ntmps94
 go_wp2_with (go_at_call 132;(with_reducible refine (HW.out).mono ?_);rintro en w1 ⟨he,hb⟩;rw [HZ.out] at he;subst he;have HB:=a_ hb;clear hb)
 go_end0
 exact ⟨⟨_,rfl⟩,⟨A,h,HT.out.kept ((HT.out.m.alloc _).below HB.out)⟩,((below_box0 w _).mono HN.out).trans (HB.out.mono (by have:=HN.out;simp;omega))⟩
theorem At.within {w:World} {n0 F:Nat} {A:Nat→Option Nat} {h:Nat→Nd} {G:Fo} (t:At w n0 F A h G) (u:Nat) {x:Nat} (hx:x=0∨x∈G.ids):∃ k,withinF h u k x=some (decide (under u x G)):=by
 rcases hx with rfl|hx
 ·refine ⟨1,?_⟩
  have:¬ under u 0 G:=by
   rintro ⟨h1,h2|h2⟩
   ·exact t.rep.ne0 u h1 h2.symm
   ·exact t.rep.ne0 0 (sub_ids u h2) rfl
  rw [withinF,if_pos rfl,df_ this]
 ·obtain ⟨c,hc⟩:=within_top (u:=u) t.rep t.nd hx
  by_cases hu:under u x G
  ·exact ⟨c+0,by rw [(hc 0).1 hu,dt_ hu]⟩
  ·exact ⟨c+0+1,by rw [(hc 0).2 hu,df_ hu]⟩
theorem fndF_ok (G:Fo) (x:Int):fndF G x=0∨fndF G x∈G.ids:=by
 by_cases h:fndF G x=0
 ·exact Or.inl h
 ·exact Or.inr (fndF_mem h).1
theorem At.where_move {w:World} {n0 F:Nat} {A:Nat→Option Nat} {h:Nat→Nd} {G:Fo} (t:At w n0 F A h G) (id up at_:Int) :
  Calls Tryd.prog 132 #[.pointer (some ⟨F,0,none⟩),.iface 161 (.agg #[.int .i64 id,.int .i64 up,.int .i64 at_])] w (WherePost w A (if fndF G id=0 then (0,0) else if under (fndF G id) (fndF G up) G then (0,0) else nearF G id up at_) (decide (fndF G id≠0∧¬ under (fndF G id) (fndF G up) G))):=by
 obtain ⟨k,hk⟩:=t.within (fndF G id) (fndF_ok G up)
 have:=P.where_move t.m id up at_ k (decide (under (fndF G id) (fndF G up) G)) (fun _=>by rw [t.fnd id,t.fnd up];exact hk)
 rw [t.fnd id,t.near] at this
 by_cases h1:fndF G id=0
 ·simpa [h1] using this
 ·by_cases h2:under (fndF G id) (fndF G up) G
  ·simpa [h1,h2] using this
  ·simpa [h1,h2] using this
theorem apply_move_no {w:World} {n0 F:Nat} {A:Nat→Option Nat} {h:Nat→Nd} {G:Fo} (t:At w n0 F A h G) (hn0:n0≤w.heap.size) (id up at_:Int) (h1:¬ (fndF G id≠0∧¬ under (fndF G id) (fndF G up) G)) :
  Calls Tryd.prog 94 #[.pointer (some ⟨F,0,none⟩),.iface 161 (.agg #[.int .i64 id,.int .i64 up,.int .i64 at_])] w (ApplyPost w n0 F G):=by
 have hz:whereR A (0,0) false=.returned (.tuple #[.pointer none,.pointer none,.bool false]):=by unfold whereR;rw [t.m.z];rfl
 have hw:=(t.kept (t.m.alloc (.cells #[.int .i64 id,.int .i64 up,.int .i64 at_] 161))).where_move id up at_
 rw [df_ h1] at hw
 have e:(if fndF G id=0 then ((0,0):Nat×Nat) else if under (fndF G id) (fndF G up) G then (0,0) else nearF G id up at_)=(0,0):=by
  by_cases h2:fndF G id=0
  ·rw [if_pos h2]
  ·rw [if_neg h2,if_pos]
   exact Decidable.byContradiction fun g=>h1 ⟨h2,g⟩
 rw [e] at hw
 have HW:=a_ hw
 have HT:=a_ t
 have HN:=a_ hn0
 have HZ:=a_ hz
 clear t h1 hn0 hz hw e
 go_enter Tryd.func94,Tryd.ntmps94
 go_wp2_with (go_at_call 132;(with_reducible refine (HW.out).mono ?_);rintro en w1 ⟨he,hb⟩;rw [HZ.out] at he;subst he;have HB:=a_ hb;clear hb)
 go_end0
 exact ⟨⟨_,rfl⟩,⟨A,h,HT.out.kept ((HT.out.m.alloc _).below HB.out)⟩,((below_box0 w _).mono HN.out).trans (HB.out.mono (by have:=HN.out;simp;omega))⟩
theorem apply_make_yes {w:World} {n0 F:Nat} {A:Nat→Option Nat} {h:Nat→Nd} {G:Fo} (t:At w n0 F A h G) (hn0:n0≤w.heap.size) (i:Nat) (up at_:Int) (s:ByteArray) (h1:fndF G (i:Int)=0) (hi0:i≠0) (hi37:i < 37) :
  Calls Tryd.prog 94 #[.pointer (some ⟨F,0,none⟩),.iface 156 (.agg #[.int .i64 (i:Int),.int .i64 up,.int .i64 at_,.string s])] w (ApplyPost w n0 F (putF G (nearF G (i:Int) up at_) i s .nil)):=by
 have hp:=near_ok (G:=G) (tops_ids t.three) (i:Int) up at_
 obtain ⟨p,hpe⟩:∃ p,p=nearF G (i:Int) up at_:=⟨_,rfl⟩
 have hw:=where_make (t.m.alloc (.cells #[.int .i64 (i:Int),.int .i64 up,.int .i64 at_,.string s] 156)) (i:Int) up at_ s
 rw [t.fnd,if_pos h1,dt_ h1,t.near,←hpe] at hw
 rw [←hpe] at hp ⊢
 have hiG:i∉G.ids:=fun g=>by
  unfold fndF at h1
  rw [if_pos ⟨by omega,show (i:Int).toNat∈G.ids from g⟩] at h1
  exact hi0 h1
 obtain ⟨bu,hbu⟩:=t.ok hp.up
 have hz:whereR A p true=.returned (.tuple #[.pointer (some ⟨bu,0,none⟩),.pointer (pa (A p.2)),.bool true]):=by unfold whereR;rw [hbu];rfl
 have hAi:A i=none:=Decidable.byContradiction fun g=>hiG ((t.dom i).1 g)
 have hui:p.1≠i:=fun g=>hiG (g ▸ hp.up)
 have hai:p.2≠i:=fun g=>by
  rcases hp.at_ with h0|⟨h0,_⟩
  ·exact hi0 (g ▸ h0)
  ·exact hiG (g ▸ h0)
 have HU:=a_ hui
 have HA:=a_ hai
 have HW:=a_ hw
 have HT:=a_ t
 have HN:=a_ hn0
 have HZ:=a_ hz
 have HI:=a_ (And.intro hi0 (And.intro hi37 (And.intro hiG hAi)))
 have HBU:=a_ hbu
 have HP:=a_ hp
 have i37:(i:Int) < 37:=by omega
 have i0':0≤(i:Int):=by omega
 clear t h1 hn0 hz hw hp hbu hui hai hiG hAi hi0 hi37 hpe
 go_enter Tryd.func94,Tryd.ntmps94
 go_wp2_with (go_at_call 132;(with_reducible refine (HW.out).mono ?_);rintro en W2 ⟨he,hb⟩;rw [HZ.out] at he;subst he;have HB:=a_ hb;have HX:=a_ (blk_below (blk_new w _) hb);clear hb;have d0:=(bC_ HX.out 0).trans rfl;have d3:=(bC_ HX.out 3).trans rfl)
 obtain ⟨g,hg⟩:∃ g,g=W2.heap.size:=⟨_,rfl⟩
 obtain ⟨W3,hW3⟩:∃ W3,W3=W2.alloc (.cells #[.int .i64 (i:Int),.string s,.pointer none,.pointer none,.pointer none] 168):=⟨_,rfl⟩
 rw [←hg,←hW3]
 have nB:W3.heap[g]?=some (.cells #[.int .i64 (i:Int),.string s,.pointer none,.pointer none,.pointer none] 168 (0,0)):=by rw [hW3,hg];exact blk_new W2 _
 have X3:W3.heap[w.heap.size]?=some (.cells #[.int .i64 (i:Int),.int .i64 up,.int .i64 at_,.string s] 156 (0,0)):=by rw [hW3];exact bA_ HX.out _
 have M2:=(HT.out.m.alloc (.cells #[.int .i64 (i:Int),.int .i64 up,.int .i64 at_,.string s] 156)).below HB.out
 have M3:Mem W3 n0 F A h:=by rw [hW3];exact M2.alloc _
 have hsz:=HB.out.size
 rw [World.size_alloc] at hsz
 have hltF:=M2.ltF
 have hgA:∀ y,A y≠some g:=fun y hy=>by have:=M2.lt hy;omega
 have hne3:∀ y,A y≠none→(h y).up≠i∧(h y).first≠i∧(h y).next≠i:=fun y hy =>
  ⟨fun e2=>(M2.cu y hy).elim (fun e3=>HI.out.1 (e2 ▸ e3)) (fun e3=>e3 (e2 ▸ HI.out.2.2.2)),fun e2=>(M2.cf y hy).elim (fun e3=>HI.out.1 (e2 ▸ e3)) (fun e3=>e3 (e2 ▸ HI.out.2.2.2)),fun e2=>(M2.cn y hy).elim (fun e3=>HI.out.1 (e2 ▸ e3)) (fun e3=>e3 (e2 ▸ HI.out.2.2.2))⟩
 have m4:=M3.add HI.out.1 HI.out.2.1 HI.out.2.2.2 hne3 (b:=g) (t:=s) hgA (by omega) (by have:=HN.out;omega) nB
 obtain ⟨W4,hW4⟩:∃ W4,W4=(W3.setCell ⟨F,i,none⟩ (.pointer (some ⟨g,0,none⟩))).drew:=⟨_,rfl⟩
 have m5:Mem W4 n0 F (upA A i g) (upN h i ⟨s,0,0,0⟩):=by rw [hW4];exact m4.drew
 have b4:Below n0 w W4:=by
  rw [hW4,hW3]
  exact (((((below_box0 w _).mono HN.out).trans (HB.out.mono (by have:=HN.out;simp;omega))).alloc (by have:=HN.out;omega) _).setCell (p:=⟨F,i,none⟩) HT.out.m.loF _).drew
 have cT:=M3.cF i HI.out.2.1
 have fT:=M3.fzF i
 have q0:=(bC_ X3 0).trans rfl
 have ne1:w.heap.size≠F:=by have:=HT.out.m.ltF;omega
 have ne2:F≠w.heap.size:=fun e=>ne1 e.symm
 have HW4:=a_ hW4
 have HAT:=a_ (attach_any m5 (i:=i) (u:=p.1) (a:=p.2) (bi:=g) (bu:=bu) (if_pos rfl) ((if_neg HU.out).trans HBU.out) HU.out (by
  rcases HP.out.at_ with h0|⟨h0,_⟩
  ·exact Or.inl h0
  ·right;rw [show upA A i g p.2=A p.2 from if_neg HA.out];exact (HT.out.dom _).2 h0) HA.out)
 rw [show upA A i g p.2=A p.2 from if_neg HA.out] at HAT
 have HB4:=a_ b4
 clear nB X3 M2 M3 hsz hltF hgA hne3 m4 m5 b4 hW4 hW3 hg d0 d3
 go_region
 rw [←HW4.out]
 clear cT fT q0
 go_wp2_with (go_at_call 130;(with_reducible refine (HAT.out).mono ?_);rintro en W5 ⟨⟨v,rfl⟩,hm,hb⟩;have HM5:=a_ hm;have HB5:=a_ hb;clear hm hb)
 go_end0
 have t:=HT.out
 obtain ⟨hi0,hi37,hiG,hAi⟩:=HI.out
 have hfree:Free (upN h i ⟨s,0,0,0⟩) i s .nil:=⟨hi0,by rw [show upN h i ⟨s,0,0,0⟩ i=⟨s,0,0,0⟩ from if_pos rfl],by rw [show upN h i ⟨s,0,0,0⟩ i=⟨s,0,0,0⟩ from if_pos rfl];rfl,trivial,by simp [Fo.ids]⟩
 have hext:RepTop (upN h i ⟨s,0,0,0⟩) G:=t.rep.ext fun x hx=>upN_out (fun e=>hiG (e ▸ hx))
 have hat:p.2=0∨(p.2∈G.ids∧p.2∉G.tops):=by
  rcases HP.out.at_ with h0|⟨h0,h2,_⟩
  ·exact Or.inl h0
  ·exact Or.inr ⟨h0,par_top h t.rep t.nd h0 (by rw [h2];exact t.rep.ne0 _ HP.out.up)⟩
 have hrep:=putF_rep (p:=p) hfree hext t.nd hiG (by simp [Fo.ids]) HP.out.up (by
  rcases HP.out.at_ with h0|⟨h0,h2,_⟩
  ·exact Or.inl h0
  ·right
   refine ⟨h0,?_,(hat.resolve_left (t.rep.ne0 _ h0)).2⟩
   rw [upN_out HA.out,reptop_par t.rep t.nd h0,h2])
 have hids:=putF_ids (p:=p) (i:=i) (t:=s) (s:=.nil) t.nd HP.out.up (hat.imp id And.left)
 simp only [Fo.ids,List.nil_append] at hids
 refine ⟨⟨_,rfl⟩,⟨_,_,HM5.out,hrep,?_,fun x=>?_,?_⟩,HB4.out.trans HB5.out⟩
 ·exact hids.nodup_iff.2 (List.nodup_cons.2 ⟨hiG,t.nd⟩)
 ·rw [hids.mem_iff,List.mem_cons]
  unfold upA
  by_cases hx:x=i
  ·simp [hx]
  ·rw [if_neg hx]
   simp only [hx,false_or]
   exact t.dom x
 ·rw [putF_tops (hat.imp id And.right)];exact t.tops
theorem sibT_ne {x:Nat} (hx0:x≠0):∀ {F:Fo},F.ids.Nodup→x∈F.ids→x∉F.tops→sibT x F≠x
 | .nil,_,hx,_=>by simp [Fo.ids] at hx
 | .nd j u k n,hn,hx,ht=>by
  obtain ⟨n1,n2,n3,n4,n5⟩:=nodup_nd hn
  simp only [Fo.ids,Fo.tops,List.mem_cons,List.mem_append,not_or] at hx ht
  unfold sibT
  by_cases hk:x∈k.ids
  ·rw [if_pos hk];exact sib_ne hx0 n3 hk (fun e=>hx0 e.symm)
  ·rw [if_neg hk];exact sibT_ne hx0 n4 (by rcases hx with g|g|g;exact absurd g ht.1;exact absurd g hk;exact g) ht.2
theorem At.detach {w:World} {n0 F:Nat} {A:Nat→Option Nat} {h:Nat→Nd} {G:Fo} (t:At w n0 F A h G) {i b:Nat} (hi:A i=some b) (hit:i∉G.tops) :
  Calls Tryd.prog 133 #[.pointer (some ⟨b,0,none⟩)] w fun e W'=>(∃ v,e=.returned v)∧Mem W' n0 F A (detachH h i (sibT i G))∧Below n0 w W':=by
 have hG:i∈G.ids:=(t.dom i).1 (by rw [hi];simp)
 obtain ⟨u1,u2⟩:=reptop_up t.rep t.nd hG hit
 obtain ⟨r1,r2⟩:=reptop_sub t.rep t.nd u1
 obtain ⟨s1,s2⟩:=sibT_pv t.rep t.nd hG hit
 obtain ⟨bu,hbu⟩:=t.ok u1
 have hsA:∀ x∈(sub (h i).up G).ids,A x≠none:=fun x hx=>(t.dom x).2 (sub_ids _ hx)
 have hL:=nlist_of t.m r1 hsA
 rw [←r2] at hL
 rw [s1]
 refine detach_any t.m hi hbu rfl u2 (sub (h i).up G).tops (fun x hx=>hsA x (tops_ids hx)) hL fun h0=>?_
 rw [←s1] at h0 ⊢
 exact ⟨(t.dom _).2 ((sibT_mem i G).resolve_left h0),sibT_ne (t.rep.ne0 i hG) t.nd hG hit⟩
theorem apply_move_yes {w:World} {n0 F:Nat} {A:Nat→Option Nat} {h:Nat→Nd} {G:Fo} (t:At w n0 F A h G) (hn0:n0≤w.heap.size) (i:Nat) (up at_:Int) (h1:fndF G (i:Int)=i) (hi0:i≠0) (hit:i∉G.tops) (hu:¬ under i (fndF G up) G) :
  Calls Tryd.prog 94 #[.pointer (some ⟨F,0,none⟩),.iface 161 (.agg #[.int .i64 (i:Int),.int .i64 up,.int .i64 at_])] w (ApplyPost w n0 F (putF (del i G) (nearF G (i:Int) up at_) i (txtF i G) (sub i G))):=by
 have hiG:i∈G.ids:=by have:=(fndF_mem (G:=G) (x:=(i:Int)) (by rw [h1];exact hi0)).1;rwa [h1] at this
 have hp:=near_del t.rep t.nd t.three hiG hit (id:=(i:Int)) (up:=up) (at_:=at_) rfl hu
 obtain ⟨p,hpe⟩:∃ p,p=nearF G (i:Int) up at_:=⟨_,rfl⟩
 have hw:=(t.kept (t.m.alloc (.cells #[.int .i64 (i:Int),.int .i64 up,.int .i64 at_] 161))).where_move (i:Int) up at_
 rw [h1,if_neg hi0,if_neg hu,dt_ ⟨hi0,hu⟩,←hpe] at hw
 rw [←hpe] at hp ⊢
 have hdelG:∀ {y},y∈(del i G).ids→y∈G.ids:=fun {y} hy=>(ids_del i G t.nd hiG).mem_iff.2 (List.mem_cons_of_mem _ (List.mem_append_right _ hy))
 obtain ⟨bu,hbu⟩:=t.ok (hdelG hp.1)
 obtain ⟨bi,hbi⟩:=t.ok hiG
 have hz:whereR A p true=.returned (.tuple #[.pointer (some ⟨bu,0,none⟩),.pointer (pa (A p.2)),.bool true]):=by unfold whereR;rw [hbu];rfl
 have hnd:=(ids_del i G t.nd hiG).nodup_iff.1 t.nd
 have hidel:i∉(del i G).ids:=fun g=>(List.nodup_cons.1 hnd).1 (List.mem_append_right _ g)
 have hui:p.1≠i:=fun g=>hidel (g ▸ hp.1)
 have hai:p.2≠i:=fun g=>by
  rcases hp.2 with h0|⟨h0,_⟩
  ·exact hi0 (g ▸ h0)
  ·exact hidel (g ▸ h0)
 have F1:Aside0 (findA A (i:Int)=some bi):=⟨(fnd_eq t.m _).trans (by rw [t.fnd,h1];exact hbi)⟩
 have HD:Aside0 (∀ W,Mem W n0 F A h→Calls Tryd.prog 133 #[.pointer (some ⟨bi,0,none⟩)] W fun e W'=>(∃ v,e=.returned v)∧Mem W' n0 F A (detachH h i (sibT i G))∧Below n0 W W'):=⟨fun W m=>(t.kept m).detach hbi hit⟩
 have HAT:Aside0 (∀ W,Mem W n0 F A (detachH h i (sibT i G))→Calls Tryd.prog 130 #[.pointer (some ⟨bi,0,none⟩),.pointer (some ⟨bu,0,none⟩),.pointer (pa (A p.2))] W fun e W'=>(∃ v,e=.returned v)∧Mem W' n0 F A (attachH (detachH h i (sibT i G)) i p.1 p.2)∧Below n0 W W'):=⟨fun W m=>attach_any m hbi hbu hui (by
  rcases hp.2 with h0|⟨h0,_⟩
  ·exact Or.inl h0
  ·exact Or.inr ((t.dom _).2 (hdelG h0))) hai⟩
 have HW:=a_ hw
 have HT:=a_ t
 have HN:=a_ hn0
 have HZ:=a_ hz
 have HI:=a_ (And.intro hi0 (And.intro hit hiG))
 have HP:=a_ hp
 have HND:=a_ hnd
 have HA:=a_ (And.intro hai hidel)
 clear t h1 hn0 hz hw hp hbu hbi hui hai hiG hi0 hit hpe hnd hidel hu
 go_enter Tryd.func94,Tryd.ntmps94
 go_wp2_with (first
  | (go_at_call 132;(with_reducible refine (HW.out).mono ?_);rintro en W2 ⟨he,hb⟩;rw [HZ.out] at he;subst he;have HB:=a_ hb;have HX:=a_ (blk_below (blk_new w _) hb);have HM2:=a_ ((HT.out.m.alloc _).below hb);clear hb;have d0:=(bC_ HX.out 0).trans rfl)
  | (go_at_call 131;(with_reducible refine (find_any HM2.out (i:Int)).mono ?_);rw [F1.out,pa_some];rintro en W3 ⟨rfl,rfl⟩)
  | (go_at_call 133;(with_reducible refine (HD.out _ HM2.out).mono ?_);rintro en W4 ⟨⟨v4,rfl⟩,hm,hb⟩;have HM4:=a_ hm;have HB4:=a_ hb;clear hm hb)
  | (go_at_call 130;(with_reducible refine (HAT.out _ HM4.out).mono ?_);rintro en W5 ⟨⟨v5,rfl⟩,hm,hb⟩;have HM5:=a_ hm;have HB5:=a_ hb;clear hm hb))
 go_end0
 have t:=HT.out
 obtain ⟨hi0,hit,hiG⟩:=HI.out
 obtain ⟨hai,hidel⟩:=HA.out
 have hp:=HP.out
 have hnd:=HND.out
 obtain ⟨n1,n2⟩:=List.nodup_cons.1 hnd
 obtain ⟨n3,n4,n5⟩:=List.nodup_append.1 n2
 have hfree:Free (detachH h i (sibT i G)) i (txtF i G) (sub i G):=by
  rw [←reptop_txt t.rep t.nd hiG]
  exact freeT_detach t.rep t.nd hiG hit (sibT_out t.rep t.nd hiG hit) (upT_out t.rep t.nd hiG hit)
 have hdel:=reptop_del t.rep t.nd hiG hit
 have hdis:∀ j∈(sub i G).ids,j∉(del i G).ids:=fun j hj hk=>n5 j hj j hk rfl
 have hup2:∀ y,y≠i→(detachH h i (sibT i G) y).up=(h y).up:=fun y hy=>by
  by_cases h0:sibT i G=0
  ·rw [h0,detachH_zero h i hy];split <;> rfl
  ·rw [detachH_pos h i _ h0 hy];split <;> rfl
 have hrep:=putF_rep (p:=p) hfree hdel n4 hidel hdis hp.1 (hp.2.imp id fun ⟨a1,a2,a3,_⟩=>⟨a1,by rw [hup2 _ hai];exact a2,a3⟩)
 have hids:=putF_ids (p:=p) (i:=i) (t:=txtF i G) (s:=sub i G) n4 hp.1 (hp.2.imp id And.left)
 have hall:=(ids_del i G t.nd hiG).trans hids.symm
 refine ⟨⟨_,rfl⟩,⟨_,_,HM5.out,hrep,hall.nodup_iff.1 t.nd,fun x=>by rw [←hall.mem_iff];exact t.dom x,?_⟩,?_⟩
 ·rw [putF_tops (hp.2.imp id fun ⟨_,_,a3,_⟩=>a3),tops_del i G hit];exact t.tops
 ·exact ((((below_box0 w _).mono HN.out).trans (HB.out.mono (by have:=HN.out;simp;omega))).trans HB4.out).trans HB5.out
end Go.Proofs.YtdpklbomhdpimaaDoor.P
namespace Go.Proofs.YtdpklbomhdpimaaDoor.FP
open Go.Proofs.YtdpklbomhdpimaaDoor.P
def toFo (l:List S69):Fo:=l.foldl (fun G x=>snoc x.f0.toNat x.f2 x.f1.toNat G) .nil
theorem fl_deep:∀ (F:Fo) (d:Nat) {x:S69},x∈F.fl d→(d:Int)≤x.f1
 | .nil,d,x,h=>by simp [Fo.fl] at h
 | .nd i t k n,d,x,h=>by
  simp only [Fo.fl,List.mem_cons,List.mem_append] at h
  rcases h with rfl|h|h
  ·exact Int.le_refl _
  ·have:=fl_deep k (d+1) h;omega
  ·exact fl_deep n d h
theorem fl_head (F:Fo) (d:Nat):F.fl d=[]∨∃ x r,F.fl d=x::r∧x.f1=(d:Int):=by
 cases F with
 | nil=>exact Or.inl rfl
 | nd i t k n=>exact Or.inr ⟨_,_,rfl,rfl⟩
theorem split_deep {d:Nat}:∀ {a a' b b':List S69},(∀ x∈a,(d:Int) < x.f1)→(∀ x∈a',(d:Int) < x.f1)→(b=[]∨∃ x r,b=x::r∧x.f1=(d:Int))→(b'=[]∨∃ x r,b'=x::r∧x.f1=(d:Int))→a++b=a'++b'→a=a'∧b=b'
 | [],[],b,b',_,_,_,_,e=>⟨rfl,e⟩
 | [],y::a',b,b',_,h2,h3,_,e=>by
  exfalso
  rcases h3 with rfl|⟨x,r,rfl,hx⟩
  ·simp at e
  ·simp only [List.nil_append,List.cons_append,List.cons.injEq] at e
   have:=h2 y List.mem_cons_self
   rw [←e.1] at this
   omega
 | y::a,[],b,b',h1,_,_,h4,e=>by
  exfalso
  rcases h4 with rfl|⟨x,r,rfl,hx⟩
  ·simp at e
  ·simp only [List.nil_append,List.cons_append,List.cons.injEq] at e
   have:=h1 y List.mem_cons_self
   rw [e.1] at this
   omega
 | y::a,y'::a',b,b',h1,h2,h3,h4,e=>by
  simp only [List.cons_append,List.cons.injEq] at e
  obtain ⟨e1,e2⟩:=split_deep (fun x hx=>h1 x (List.mem_cons_of_mem _ hx)) (fun x hx=>h2 x (List.mem_cons_of_mem _ hx)) h3 h4 e.2
  exact ⟨by rw [e.1,e1],e2⟩
theorem fl_inj:∀ (F G:Fo) (d:Nat),F.fl d=G.fl d→F=G
 | .nil,.nil,_,_=>rfl
 | .nil,.nd _ _ _ _,_,h=>by simp [Fo.fl] at h
 | .nd _ _ _ _,.nil,_,h=>by simp [Fo.fl] at h
 | .nd i t k n,.nd i' t' k' n',d,h=>by
  simp only [Fo.fl,List.cons.injEq,S69.mk.injEq] at h
  obtain ⟨⟨h1,_,h2⟩,h3⟩:=h
  obtain ⟨e1,e2⟩:=split_deep (d:=d) (fun x hx=>by have:=fl_deep k (d+1) hx;omega) (fun x hx=>by have:=fl_deep k' (d+1) hx;omega) (fl_head n d) (fl_head n' d) h3
  rw [fl_inj k k' (d+1) e1,fl_inj n n' d e2,h2,show i=i' by omega]
theorem fold_fl:∀ (l:List S69) (G:Fo) (seen:List Int) (roots:Int),treeGo seen roots ((dpth G:Int) - 1) l=true→(l.foldl (fun G x=>snoc x.f0.toNat x.f2 x.f1.toNat G) G).fl 0=G.fl 0++l
 | [],G,_,_,_=>by simp
 | x::l,G,seen,roots,h=>by
  unfold treeGo at h
  simp only [Bool.and_eq_true,decide_eq_true_eq] at h
  obtain ⟨hrow,_,hdep,hrest⟩:=h
  obtain ⟨b0,b37,d0,d18⟩:=rowB_id hrow
  have he:x.f1.toNat≤dpth G:=by omega
  have hd:((dpth (snoc x.f0.toNat x.f2 x.f1.toNat G):Int) - 1)=x.f1:=by rw [snoc_dpth _ _ G _ he];omega
  have hrest2:∃ s r,treeGo s r x.f1 l=true:=by
   split at hrest
   ·simp only [Bool.and_eq_true] at hrest;exact ⟨_,_,hrest.2⟩
   ·exact ⟨_,_,hrest⟩
  obtain ⟨s,r,hr⟩:=hrest2
  rw [List.foldl_cons,fold_fl l _ s r (by rw [hd];exact hr),snoc_fl _ _ G _ 0 he,List.append_assoc,Nat.zero_add]
  congr 1
  obtain ⟨x0,x1,x2⟩:=x
  simp only [List.singleton_append,List.cons.injEq,and_true]
  simp only at b0 d0
  congr 1
  ·omega
  ·omega
theorem toFo_fl {l:List S69} (h:treeB l=true):(toFo l).fl 0=l:=by
 have:=fold_fl l .nil [] 0 h
 exact this
theorem toFo_of {l:List S69} {G:Fo} (h:treeB l=true) (hG:G.fl 0=l):toFo l=G:=fl_inj _ _ 0 ((toFo_fl h).trans hG.symm)
theorem nodup_len:∀ (n:Nat) (l:List Nat),l.Nodup→(∀ x∈l,x < n)→l.length≤n
 | 0,[],_,_=>Nat.le_refl _
 | 0,x::l,_,h=>absurd (h x List.mem_cons_self) (Nat.not_lt_zero _)
 | n+1,l,hn,h=>by
  have e1:=nodup_len n (l.erase n) (hn.erase n) fun x hx=>by
   have h1:=(hn.mem_erase_iff).1 hx
   have:=h x h1.2
   omega
  have:=List.length_erase (a:=n) (l:=l)
  split at this <;> omega
end Go.Proofs.YtdpklbomhdpimaaDoor.FP
namespace Go.Proofs.YtdpklbomhdpimaaDoor.P
open Go.RowKit Go.Shelf Go.Proofs.YtdpklbomhdpimaaDoorW.PrintWords Go.Proofs.YtdpklbomhdpimaaDoorW.PrintLast Go.Proofs.YtdpklbomhdpimaaDoorW.PrintMore Go.Proofs.YtdpklbomhdpimaaDoor.FP
attribute [local go_sem] Oper.semAt_some

theorem roomN {F:Fence} (hd:F.depth=none) (k:Nat):F.room k:=fun d h=>by rw [hd] at h;cases h
theorem callsIn_any {F:Fence} (hd:F.depth=none) {m m':Nat} {P:Program} {f:FuncId} {args:Array Value} {w:World} {R:Ending→World→Prop} (h:CallsIn F m P f args w R):CallsIn F m' P f args w R :=
 ⟨h.1,fun cs _=>h.2 cs (roomN hd _)⟩
theorem roundIn_any {F:Fence} (hd:F.depth=none) {m m':Nat} {P:Program} {l:Nat} {f:FuncId} {tmps:Array Value} {assign body:Code} {w:World} {R:Ending→World→Prop}
  (h:RoundIn F m P l f tmps assign body w R):RoundIn F m' P l f tmps assign body w R:=⟨h.1,fun c cs _=>h.2 c cs (roomN hd _)⟩
theorem KeepsFrom.mono {B B':Nat} {W W':World} (h:KeepsFrom B W W') (hB:B≤B'):KeepsFrom B' W W':=⟨h.size,fun k o hk=>h.same k o (Nat.le_trans hB hk)⟩
def Stb {β:Type} (B0:Nat) (J:β→World→Prop):Prop :=
 ∀ s V W row,J s V→V.grownBy W row→(∀ r,row=some r→B0≤r∧∃ o:Obj,V.heap[r]?=some o∧(o.isCells=false∨∃ v,o=.cells #[v] 4 (0,0)))→J s W
theorem Stb.own {β:Type} {B0 B:Nat} {J:β→World→Prop} (h:Stb B0 J) (hB:B0≤B):OwnFrom B J:=fun s V W row hs hg hr=>h s V W row hs hg fun r e=>by
 obtain ⟨h1,o,h2,h3⟩:=hr r e
 exact ⟨Nat.le_trans hB h1,o,h2,Or.inl h3⟩
theorem Stb.alloc {β:Type} {B0:Nat} {J:β→World→Prop} (h:Stb B0 J) {s:β} {V:World} (o:Obj) (hs:J s V):J s (V.alloc o):=h s V _ none hs (World.grownBy_alloc V o none) (fun r e=>by cases e)
theorem Stb.put {β:Type} {B0:Nat} {J:β→World→Prop} (h:Stb B0 J) {s:β} {V:World} {l:Nat} {o:Obj} (o':Obj) (hs:J s V) (hl:V.heap[l]?=some o) (ho:o.isCells=false) (hB:B0≤l):J s (V.putObj l o') :=
 h s V _ (some l) hs (grownBy_putObj' V l o') (fun r e=>by cases e;exact ⟨hB,o,hl,Or.inl ho⟩)
theorem Stb.box {β:Type} {B0:Nat} {J:β→World→Prop} (h:Stb B0 J) {s:β} {V:World} {l:Nat} {v:Value} (v':Value) (hs:J s V) (hl:Boxed V l 4 v) (hB:B0≤l):J s (V.setCell ⟨l,0,none⟩ v') :=
 h s V _ (some l) hs (grownBy_setCell' V l v') (fun r e=>by cases e;exact ⟨hB,_,hl,Or.inr ⟨v,rfl⟩⟩)
structure YE (A:Nat→Option Nat) where
 val:Nat
 dep:Int
 ok:A val≠none
 d0:0≤dep∧dep≤1000
def YE.pr {A:Nat→Option Nat} (e:YE A):Nat×Int:=(e.val,e.dep)
theorem YE.inj {A:Nat→Option Nat}:∀ {e e':YE A},e.pr=e'.pr→e=e'
 | ⟨v,d,_,_⟩,⟨v',d',_,_⟩,h=>by
  have h1:v=v':=congrArg Prod.fst h
  have h2:d=d':=congrArg Prod.snd h
  subst h1;subst h2;rfl
theorem YE.inj_map {A:Nat→Option Nat}:∀ {l l':List (YE A)},l.map YE.pr=l'.map YE.pr→l=l'
 | [],[],_=>rfl
 | [],_::_,h=>by cases h
 | _::_,[],h=>by cases h
 | e::l,e'::l',h=>by
  rw [List.map_cons,List.map_cons] at h
  rw [YE.inj (List.cons.inj h).1,YE.inj_map (List.cons.inj h).2]
def mkYE (A:Nat→Option Nat):(l:List (Nat×Int))→(∀ p∈l,A p.1≠none∧0≤p.2∧p.2≤1000)→List (YE A)
 | [],_=>[]
 | p::l,h=>⟨p.1,p.2,(h p List.mem_cons_self).1,(h p List.mem_cons_self).2⟩::mkYE A l fun q hq=>h q (List.mem_cons_of_mem _ hq)
theorem mkYE_pr (A:Nat→Option Nat):∀ (l:List (Nat×Int)) (h:∀ p∈l,A p.1≠none∧0≤p.2∧p.2≤1000),(mkYE A l h).map YE.pr=l
 | [],_=>rfl
 | p::l,h=>by
  unfold mkYE
  rw [List.map_cons,mkYE_pr A l]
  rfl
def pre1 (d:Int):Fo→List (Nat×Int)
 | .nil=>[]
 | .nd i _ k n=>(i,d)::(pre1 (d+1) k++pre1 d n)
theorem pre1_len:∀ (F:Fo) (d:Int),(pre1 d F).length=F.ids.length
 | .nil,d=>rfl
 | .nd i t k n,d=>by simp [pre1,Fo.ids,pre1_len k,pre1_len n]
theorem pre1_mem:∀ {F:Fo} {d:Int} {p:Nat×Int},p∈pre1 d F→p.1∈F.ids∧d≤p.2∧p.2 < d+F.ids.length
 | .nil,d,p,h=>by cases h
 | .nd i t k n,d,p,h=>by
  simp only [pre1,List.mem_cons,List.mem_append] at h
  simp only [Fo.ids,List.mem_cons,List.mem_append,List.length_cons,List.length_append]
  rcases h with rfl|h|h
  ·exact ⟨Or.inl rfl,by simp,by simp;omega⟩
  ·obtain ⟨h1,h2,h3⟩:=pre1_mem h
   exact ⟨Or.inr (Or.inl h1),by omega,by omega⟩
  ·obtain ⟨h1,h2,h3⟩:=pre1_mem h
   exact ⟨Or.inr (Or.inr h1),by omega,by omega⟩
def kf (x:Nat):Fo→Fo
 | .nil=>.nil
 | .nd j _ k n=>if j=x then k else kf x n
theorem kf_spec {h:Nat→Nd} {x:Nat}:∀ {F:Fo} {up:Nat},Rep h up F→F.ids.Nodup→x∈F.tops→Rep h x (kf x F)∧(h x).first=(kf x F).hd∧(∀ y∈(kf x F).ids,y∈F.ids)∧(kf x F).ids.length < F.ids.length∧(kf x F).ids.Nodup
 | .nil,_,_,_,hx=>by cases hx
 | .nd j t k n,up,⟨h1,h2,h3,h4⟩,hn,hx=>by
  obtain ⟨n1,n2,n3,n4,n5⟩:=nodup_nd hn
  unfold kf
  by_cases e:j=x
  ·subst e
   rw [if_pos rfl]
   exact ⟨h3,by rw [h2],fun y hy=>by simp [Fo.ids,hy],by simp [Fo.ids];omega,n3⟩
  ·rw [if_neg e]
   have hx':x∈n.tops:=by
    simp only [Fo.tops,List.mem_cons] at hx
    exact hx.resolve_left fun e'=>e e'.symm
   obtain ⟨g1,g2,g3,g4,g5⟩:=kf_spec h4 n4 hx'
   exact ⟨g1,g2,fun y hy=>by simp [Fo.ids,g3 y hy],by simp [Fo.ids];omega,g5⟩
theorem flatMap_congr' {α β:Type} {f g:α→List β}:∀ {l:List α},(∀ x∈l,f x=g x)→l.flatMap f=l.flatMap g
 | [],_=>rfl
 | x::l,h=>by rw [List.flatMap_cons,List.flatMap_cons,h x List.mem_cons_self,flatMap_congr' fun y hy=>h y (List.mem_cons_of_mem _ hy)]
theorem pre1_kids:∀ (F:Fo) (d:Int),F.ids.Nodup→pre1 d F=F.tops.flatMap fun x=>(x,d)::pre1 (d+1) (kf x F)
 | .nil,d,_=>rfl
 | .nd j t k n,d,hn=>by
  obtain ⟨n1,n2,n3,n4,n5⟩:=nodup_nd hn
  simp only [Fo.tops,List.flatMap_cons,pre1]
  rw [pre1_kids n d n4]
  have e1:kf j (Fo.nd j t k n)=k:=by unfold kf;exact if_pos rfl
  rw [e1,List.cons_append]
  congr 2
  refine flatMap_congr' fun x hx=>?_
  have e2:kf x (Fo.nd j t k n)=kf x n:=by
   have:j≠x:=fun e=>n2 (tops_ids (e ▸ hx))
   show (if j=x then k else kf x n)=kf x n
   exact if_neg this
  rw [e2]
theorem map_flatMap' {α β γ:Type} (f:α→List β) (g:β→γ):∀ (l:List α),(l.flatMap f).map g=l.flatMap fun x=>(f x).map g
 | []=>rfl
 | x::l=>by rw [List.flatMap_cons,List.flatMap_cons,List.map_append,map_flatMap' f g l]
theorem flatMap_map' {α β γ:Type} (f:β→List γ) (g:α→β):∀ (l:List α),(l.map g).flatMap f=l.flatMap fun x=>f (g x)
 | []=>rfl
 | x::l=>by rw [List.map_cons,List.flatMap_cons,List.flatMap_cons,flatMap_map' f g l]
theorem flatMap_len {α β:Type} (f:α→List β) (c:Nat):∀ (l:List α),(∀ x∈l,(f x).length≤c)→(l.flatMap f).length≤c * l.length
 | [],_=>by simp
 | x::l,h=>by
  rw [List.flatMap_cons,List.length_append,List.length_cons,Nat.mul_add]
  have h1:=h x List.mem_cons_self
  have h2:=flatMap_len f c l fun y hy=>h y (List.mem_cons_of_mem _ hy)
  omega
theorem tops_len:∀ (F:Fo),F.tops.length≤F.ids.length
 | .nil=>Nat.le_refl _
 | .nd i t k n=>by
  have:=tops_len n
  simp only [Fo.tops,Fo.ids,List.length_cons,List.length_append]
  omega
attribute [local go_sem] Oper.semAt_some

def KB (V W:World):Prop:=∀ (b:Nat) (t:TypeId) (v:Value),(t=3∨t=194∨t=4∨t=162∨t=121)→Boxed V b t v→Boxed W b t v
theorem KB.refl (W:World):KB W W:=fun _ _ _ _ h=>h
theorem KB.trans {U V W:World} (h:KB U V) (k:KB V W):KB U W:=fun b t v ht hb=>k b t v ht (h b t v ht hb)
theorem KB.grown {V W:World} {row:Option Nat} (hg:V.grownBy W row) (hr:∀ r,row=some r→∃ o:Obj,V.heap[r]?=some o∧o.isCells=false):KB V W:=fun b t v _ hb=>hb.kept hg fun e=>by
 obtain ⟨o,h1,h2⟩:=hr b e.symm
 have h3:V.heap[b]?=some (.cells #[v] t (0,0)):=hb
 rw [h3] at h1
 rw [←sj_ h1] at h2
 cases h2
theorem KB.alloc {U V:World} (h:KB U V) (o:Obj):KB U (V.alloc o):=h.trans (KB.grown (World.grownBy_alloc V o none) (fun r e=>by cases e))
structure Stp (w0:World) (B0:Nat) (V W:World):Prop where
 below:Below w0.heap.size V W
 from_:KeepsFrom B0 V W
 kb:KB V W
theorem Stp.refl (w0:World) (B0:Nat) (W:World):Stp w0 B0 W W:=⟨Below.refl _ _,KeepsFrom.refl _ _,KB.refl _⟩
theorem Stp.trans {w0:World} {B0:Nat} {U V W:World} (h:Stp w0 B0 U V) (k:Stp w0 B0 V W):Stp w0 B0 U W:=⟨h.below.trans k.below,h.from_.trans k.from_,h.kb.trans k.kb⟩
theorem Stp.alloc {w0:World} {B0:Nat} {U V:World} (h:Stp w0 B0 U V) (hB:w0.heap.size≤V.heap.size) (o:Obj):Stp w0 B0 U (V.alloc o):=⟨h.below.alloc hB _,h.from_.trans ((KeepsOthers.alloc _ _).from _),h.kb.alloc o⟩
theorem ownFrom_stp {β:Type} {B B0:Nat} {w0 U:World} (h1:w0.heap.size≤U.heap.size) (h2:U.heap.size≤B):OwnFrom B (fun (_:β) W=>Stp w0 B0 U W):=fun s V W row hs hg hr =>
 ⟨ownFrom_below (n₀:=w0.heap.size) (β:=Unit) h1 (Nat.le_trans h1 h2) () V W row hs.below hg hr,ownFrom_keepsFrom (β:=Unit) (B:=B0) h2 () V W row hs.from_ hg hr,hs.kb.trans (KB.grown hg fun r e=>(hr r e).2)⟩
def WalkI {A:Nat→Option Nat} {Q:Nat→Prop} (J:List (YE A)→World→Prop) (pre:List (YE A)) (ys:KA Q→List (YE A)) (w0 W0:World) (B0 g l:Nat) (d:Int) (ks:List (KA Q)) (W:World):Prop :=
 J (pre++ks.flatMap ys) W∧(Boxed W g 3 (.int .i64 d)∧Boxed W (g+1) 194 (.func (.yield l) #[] #[])∧Boxed W (g+1+1) 4 (.bool false))∧Stp w0 B0 W0 W
theorem walkI_own {A:Nat→Option Nat} {Q:Nat→Prop} {J:List (YE A)→World→Prop} {pre:List (YE A)} {ys:KA Q→List (YE A)} {w0 W0:World} {B0 g l B:Nat} {d:Int} (hJ:Stb B0 J) (hB:B0≤B) (h1:w0.heap.size≤W0.heap.size) (h2:W0.heap.size≤B) :
    OwnFrom B (WalkI (Q:=Q) J pre ys w0 W0 B0 g l d):=fun s V W row hs hg hr =>
  ⟨hJ.own hB (pre++s.flatMap ys) V W row hs.1 hg hr,
   ⟨boxed_own g _ (fun (_:Unit)=>_) () V W row hs.2.1.1 hg (fun r e=>(hr r e).2),boxed_own (g+1) _ (fun (_:Unit)=>_) () V W row hs.2.1.2.1 hg (fun r e=>(hr r e).2),boxed_own (g+1+1) _ (fun (_:Unit)=>_) () V W row hs.2.1.2.2 hg (fun r e=>(hr r e).2)⟩,
   ownFrom_stp (β:=Unit) h1 h2 () V W row hs.2.2 hg hr⟩
theorem KB.far {U V:World} (h:KB U V) {g:Nat} (hg:U.heap.size≤g) (v:Value):KB U (V.setCell ⟨g,0,none⟩ v):=fun b t u ht hb=>(h b t u ht hb).other (fun e=>by have:=hb.lt;omega) v
theorem KeepsFrom.far {B:Nat} {U V:World} (h:KeepsFrom B U V) {D:Nat} (hD:U.heap.size≤D) {o:Obj} (hK:V.heap[D]?=some o) (ho:o.isCells=false) (o':Obj):KeepsFrom B U (V.putObj D o') :=
 ownFrom_keepsFrom (β:=Unit) (B':=U.heap.size) (Nat.le_refl _) () V _ (some D) h (grownBy_putObj' V D o') (fun r e=>by cases e;exact ⟨hD,o,hK,ho⟩)
def WalkPost {A:Nat→Option Nat} (J:List (YE A)→World→Prop) (w0:World) (B0:Nat) (l:List (YE A)) (W:World) (e:Ending) (W':World):Prop:=e=.returned (.bool true)∧J l W'∧Stp w0 B0 W W'
theorem wlk_in_ (F:Fence) (hd:F.depth=none) (h81:F.fn 153) (h56:F.fn 156) (h76:F.fn 157) (hro:F.round=none) (l N B0:Nat) {w0:World} {n0 Fb:Nat} {A:Nat→Option Nat} {h:Nat→Nd} (m:Mem w0 n0 Fb A h)
  (J:List (YE A)→World→Prop) (hJ:Stb B0 J)
  (hY:∀ (q:Nat) (pre:List (YE A)) (x:YE A) (W:World),J pre W→Below w0.heap.size w0 W→pre.length < N→YieldAt F q Tryd.prog l #[.pointer (pa (A x.val)),.int .i64 x.dep] W (WalkPost J w0 B0 (pre++[x]) W)) :
  ∀ (s:Nat) (k:Fo),k.ids.length < s→∀ (q i:Nat) (d:Int) (es pre:List (YE A)) (W:World),Rep h i k→k.ids.Nodup→(∀ x∈k.ids,A x≠none)→A i≠none→(h i).first=k.hd→es.map YE.pr=(i,d)::pre1 (d+1) k→J pre W→Below w0.heap.size w0 W→B0≤W.heap.size →
   pre.length+1400 * (k.ids.length+1)≤N→k.ids.length≤36→0≤d→d+k.ids.length≤900 →
   CallsIn F q Tryd.prog 153 #[.pointer (pa (A i)),.int .i64 d,.func (.yield l) #[] #[]] W (WalkPost J w0 B0 (pre++es) W):=by
 intro s
 induction s with
 | zero=>intro k hk;omega
 | succ s ih =>
  intro k hks q i d es pre W hR hnd hAk hAi hfirst hes hJ0 hB hB0 hN h36 hd0 hd1
  obtain ⟨b,hb⟩:=Option.ne_none_iff_exists'.1 hAi
  -- what is handed on
  obtain ⟨e0,rest,rfl⟩:∃ e0 rest,es=e0::rest:=by
   cases es with
   | nil=>cases hes
   | cons e0 rest=>exact ⟨e0,rest,rfl⟩
  rw [List.map_cons] at hes
  obtain ⟨he0,hrest⟩:=List.cons.inj hes
  have hv:e0.val=i:=congrArg Prod.fst he0
  have hdp:e0.dep=d:=congrArg Prod.snd he0
  obtain ⟨ks,hks2⟩:=attach_val (Q:=fun y=>y∈k.tops) (l:=k.tops) fun x hx=>hx
  have hok:∀ x:KA (fun y=>y∈k.tops),∀ p∈(x.val,d+1)::pre1 (d+1+1) (kf x.val k),A p.1≠none∧0≤p.2∧p.2≤1000:=fun x p hp=>by
   obtain ⟨g1,g2,g3,g4,g5⟩:=kf_spec hR hnd x.ok
   rcases List.mem_cons.1 hp with rfl|hp
   ·exact ⟨hAk _ (tops_ids x.ok),by simp;omega,by simp;omega⟩
   ·obtain ⟨a1,a2,a3⟩:=pre1_mem hp
    exact ⟨hAk _ (g3 _ a1),by omega,by omega⟩
  obtain ⟨ys,hys⟩:∃ ys:KA (fun y=>y∈k.tops)→List (YE A),∀ x,(ys x).map YE.pr=(x.val,d+1)::pre1 (d+1+1) (kf x.val k):=⟨fun x=>mkYE A _ (hok x),fun x=>mkYE_pr A _ (hok x)⟩
  have hrest2:rest=ks.flatMap ys:=by
   apply YE.inj_map
   rw [hrest,map_flatMap',pre1_kids k (d+1) hnd]
   refine ((congrArg (fun (z:List Nat)=>z.flatMap fun x=>(x,d+1)::pre1 (d+1+1) (kf x k)) hks2).symm.trans (flatMap_map' _ KA.val ks)).trans ?_
   exact flatMap_congr' fun x _=>(hys x).symm
  have hyl:∀ x,(ys x).length≤36:=fun x=>by
   have h1:=congrArg List.length (hys x)
   have g4:=(kf_spec hR hnd x.ok).2.2.2.1
   rw [List.length_map,List.length_cons,pre1_len] at h1
   omega
  have hkl:ks.length≤36:=by
   have h1:=congrArg List.length hks2
   rw [List.length_map] at h1
   have:=tops_len k
   omega
  subst hrest2
  clear hes hrest hok he0
  have hsz:=hB.size
  -- the boxes
  obtain ⟨W3,hW3⟩:∃ W3,W3=((W.alloc (.cells #[.int .i64 d] 3)).alloc (.cells #[.func (.yield l) #[] #[]] 194)).alloc (.cells #[.bool false] 4):=⟨_,rfl⟩
  have b1:=((Boxed.new W 3 (.int .i64 d)).alloc (.cells #[.func (.yield l) #[] #[]] 194)).alloc (.cells #[.bool false] 4)
  have b2:=(Boxed.new (W.alloc (.cells #[.int .i64 d] 3)) 194 (.func (.yield l) #[] #[])).alloc (.cells #[.bool false] 4)
  have b3:=Boxed.new ((W.alloc (.cells #[.int .i64 d] 3)).alloc (.cells #[.func (.yield l) #[] #[]] 194)) 4 (.bool false)
  simp only [World.size_alloc] at b2 b3
  have hJ3:J pre W3:=by rw [hW3];exact hJ.alloc _ (hJ.alloc _ (hJ.alloc _ hJ0))
  have hS3:Stp w0 B0 W W3:=by rw [hW3];exact (((Stp.refl w0 B0 W).alloc hsz _).alloc (by simp;omega) _).alloc (by simp;omega) _
  have hz3:W3.heap.size=W.heap.size+3:=by rw [hW3];simp
  rw [←hW3] at b1 b2 b3
  obtain ⟨fn,tmps,assign,body,hy,hRd⟩:=hY 7 pre e0 W3 hJ3 (hB.trans hS3.below) (by omega)
  rw [hv,hdp,hb,pa_some] at hy
  have cD:=b1.cell
  have cY:=b2.cell
  have M:=a_ m
  have HB:=a_ hB
  have HBi:=a_ hb
  have HS3:=a_ hS3
  refine callsIn_any hd (m:=8) ?_
  rw [hb,pa_some]
  refine callsIn_of_wp_marks Tryd.func153 rfl h81 ?_ hro
  simp only [Tryd.ntmps153,List.size_toArray,List.length_cons,List.length_nil,Nat.reduceAdd,Nat.reduceSub,Array.replicate_succ,Array.replicate_zero,List.push_toArray,List.append_toArray,List.nil_append,List.cons_append]
  rw [hW3] at hy cD cY
  gi_wp2
  rw [←hW3]
  refine hRd.mono ?_
  clear hRd hy cD cY hJ3 hS3
  rintro e W4 ⟨rfl,hJ4,hS4⟩
  have HJ4:=a_ hJ4
  have HS4:=a_ (HS3.out.trans hS4)
  have HK4:=a_ hS4.kb
  have HZ4:=a_ hS4.below.size
  clear hJ4 hS4
  gi_wp2_with (gi_at_call 156;refine (kids_in F _ h56 hro _ _).mono ?_;rintro e w' ⟨rfl,rfl⟩)
  have hS4:=HS4.out
  have hz4:W3.heap.size≤W4.heap.size:=HZ4.out
  obtain ⟨W5,hW5⟩:∃ W5,W5=W4.alloc (.cells #[.pointer (some ⟨b,0,none⟩)] 162):=⟨_,rfl⟩
  have hz5:W5.heap.size=W4.heap.size+1:=by rw [hW5];simp
  have hB05:B0≤W5.heap.size:=by omega
  have hbox:W5.cell? ⟨W4.heap.size,0,none⟩=some (.pointer (some ⟨b,0,none⟩)):=by rw [hW5];exact (cell_new_f W4 _ _).1
  have hS45:Stp w0 B0 W4 W5:=by rw [hW5];exact (Stp.refl w0 B0 W4).alloc (by omega) _
  have hB5:Below w0.heap.size w0 W5:=(HB.out.trans hS4.below).trans hS45.below
  have M5:=M.out.below hB5
  have c3:=M5.c3 HBi.out
  rw [hfirst] at c3
  have hL:NList A w0.heap.size W5 (pa (A k.hd)) (ks.map KA.val):=by rw [hks2];exact (nlist_of M.out hR hAk).below hB5
  have hbl:b < w0.heap.size:=M.out.lt HBi.out
  have hI0:WalkI J (pre++[e0]) ys w0 W5 B0 W.heap.size l d [] W5:=⟨by rw [List.flatMap_nil,List.append_nil,hW5];exact hJ.alloc _ HJ4.out,⟨hS45.kb _ _ _ (Or.inl rfl) (HK4.out _ _ _ (Or.inl rfl) b1),hS45.kb _ _ _ (Or.inr (Or.inl rfl)) (HK4.out _ _ _ (Or.inr (Or.inl rfl)) b2),hS45.kb _ _ _ (Or.inr (Or.inr (Or.inl rfl))) (HK4.out _ _ _ (Or.inr (Or.inr (Or.inl rfl))) b3)⟩,Stp.refl _ _ _⟩
  rw [←hW5]
  have HB5:=a_ hB5
  have HS45:=a_ hS45
  clear b1 b2 b3 hB5 hS45
  refine wpIn_rangeFunc_ownG hro (show 1≤8 by omega) (gf:=157) (lb:=#[.pointer (some ⟨W4.heap.size,0,none⟩)]) rfl h76 (enters_of Tryd.func157 (by kernel_rfl) rfl)
   (kids_stops F 7 h76 hro (by omega) W4.heap.size w0.heap.size b (fun y=>y∈k.tops) A (pa (A k.hd)) ks W5 (by omega) (by omega) (by omega) hbox c3 hL) belowK_t (belowK_b (by omega)) (Below.refl _ _) (fun _=>by rfl)
   (WalkI J (pre++[e0]) ys w0 W5 B0 W.heap.size l d) (fun _ _ _=>False) (walkI_own hJ (by omega) (by omega) (by omega)) (fun _ _ _ _ _ hs _ _=>hs) hI0
   (fun x=>{ tmps:=#[.pointer (some ⟨b,0,none⟩),.int .i64 d,.func (.yield l) #[] #[],undef,.pointer (some ⟨W.heap.size,0,none⟩),.pointer (some ⟨W.heap.size+1,0,none⟩),.pointer (some ⟨W.heap.size+1+1,0,none⟩),.pointer (pa (A x.val)),.func (.yield l) #[] #[],.pointer (some ⟨b,0,none⟩),.int .i64 d,.bool true,.bool false,.pointer (some ⟨b,0,none⟩),.func (.func 157) #[] #[.pointer (some ⟨W4.heap.size,0,none⟩)],.pointer (pa (A x.val)),undef,undef,undef,undef,undef,undef],defers:=[] }) ?assign ?body ?done ?stop
  case assign =>
   intro l2 x V K hK
   gi_wp2
   exact hK
  case body =>
   rintro l2 pre' x V hI hlt
   obtain ⟨hJv,⟨v1,v2,v3⟩,hSv⟩:=hI
   obtain ⟨g1,g2,g3,g4,g5⟩:=kf_spec hR hnd x.ok
   have hfl:=flatMap_len ys 36 pre' fun x _=>hyl x
   have IH:=a_ (ih (kf x.val k) (by omega) (8 - 1 - 1 - 1) x.val (d+1) (ys x) (pre++[e0]++pre'.flatMap ys) V g1 g5 (fun y hy=>hAk y (g3 y hy)) (hAk _ (tops_ids x.ok)) g2 (hys x) hJv (HB5.out.trans hSv.below) (by have:=hSv.below.size;omega)
    (by simp only [List.length_append,List.length_cons,List.length_nil];omega) (by omega) (by omega) (by omega))
   have p1:=v1.cell
   have p2:=v2.cell
   have HV:=a_ (And.intro v1 (And.intro v2 v3))
   have HSv:=a_ hSv
   clear hJv v1 v2 v3 hSv g1 g2 g3 g4 g5 hfl hlt hI0 hL c3 hbox M5 hz4 hz5 hkl hyl hys hks2 hv hdp hN h36
   have hd0':0≤d:=hd0
   have hd9:d≤900:=by omega
   gi_wp2_with (gi_at_call 153;refine (CallsIn.inRound l2 IH.out).mono ?_;clear IH;rintro e W6 ⟨rfl,hJ6,hS6⟩;have HJ6:=a_ hJ6;have HS6:=a_ hS6;clear hJ6 hS6)
   have h6:=HS6.out
   obtain ⟨v1,v2,v3⟩:=HV.out
   have hJ6:=HJ6.out
   refine ⟨KeepsFrom.mono h6.from_ hB05,h6.below,⟨?_,⟨h6.kb _ _ _ (Or.inl rfl) v1,h6.kb _ _ _ (Or.inr (Or.inl rfl)) v2,h6.kb _ _ _ (Or.inr (Or.inr (Or.inl rfl))) v3⟩,HSv.out.trans h6⟩⟩
   rw [List.flatMap_append,List.flatMap_cons,List.flatMap_nil,List.append_nil,←List.append_assoc]
   exact hJ6
  case done =>
   rintro D zs V hD rfl ⟨hJv,⟨v1,v2,v3⟩,hSv⟩ hK
   have p3:=v3.cell
   have f3:=v3.frozen
   have HV3:=a_ v3
   have HSv:=a_ hSv
   have HJv:=a_ hJv
   clear v1 v2 v3 hSv hJv hI0 hL c3 hbox M5
   gi_wp2
   have hK':=(KeepsOthers.setCell V ⟨W.heap.size+1+1,0,none⟩ (.bool true)).same D _ hK rfl
   refine ⟨by simp,.inl ⟨_,_,rfl,run_takeDeferred hK',?_⟩⟩
   have hc5:=cell_kept (World.cell?_setCell_same' V ⟨W.heap.size+1+1,0,none⟩ (.bool true) (by rw [p3];rfl)) (grownBy_putObj' _ D (.deferred none)) (fun r e=>by cases e;exact ⟨_,hK',rfl⟩)
   have hSW:Stp w0 B0 W V:=(hS4.trans HS45.out).trans HSv.out
   refine ⟨.bool true,?_,rfl,?_,?_⟩
   ·simp [results,Tryd.f153,go_sem,hc5]
   ·refine hJ.put _ ?_ hK' rfl (by omega)
    have hb:=hJ.box (.bool true) HJv.out HV3.out (by omega)
    rw [List.append_assoc] at hb
    exact hb
   ·refine ⟨?_,?_,?_⟩
    ·exact (hSW.below.setCell (p:=⟨W.heap.size+1+1,0,none⟩) (by simp;omega) _).trans (belowK_b (w:=W) hsz _ D _ _ (by omega) hK' rfl rfl)
    ·exact KeepsFrom.far (hSW.from_.trans ((KeepsOthers.setCell _ _ _).from _)) (by omega) hK' rfl _
    ·exact (hSW.kb.far (by omega) _).trans (KB.grown (grownBy_putObj' _ D _) (fun r e=>by cases e;exact ⟨_,hK',rfl⟩))
  case stop =>
   rintro D c pre' V _ _ hf _
   exact hf.elim
attribute [local go_sem] Oper.semAt_some

theorem roots_kf {h:Nat→Nd} {r:Nat}:∀ {G:Fo},RepTop h G→G.ids.Nodup→r∈G.tops→Rep h r (kf r G)∧(h r).first=(kf r G).hd∧(∀ y∈(kf r G).ids,y∈G.ids)∧(kf r G).ids.length < G.ids.length∧(kf r G).ids.Nodup
 | .nil,_,_,hx=>by cases hx
 | .nd j t k n,⟨h1,h2,h3,h4⟩,hn,hx=>by
  obtain ⟨n1,n2,n3,n4,n5⟩:=nodup_nd hn
  unfold kf
  by_cases e:j=r
  ·subst e
   rw [if_pos rfl]
   exact ⟨h3,by rw [h2],fun y hy=>by simp [Fo.ids,hy],by simp [Fo.ids];omega,n3⟩
  ·rw [if_neg e]
   have hx':r∈n.tops:=by
    simp only [Fo.tops,List.mem_cons] at hx
    exact hx.resolve_left fun e'=>e e'.symm
   obtain ⟨g1,g2,g3,g4,g5⟩:=roots_kf h4 n4 hx'
   exact ⟨g1,g2,fun y hy=>by simp [Fo.ids,g3 y hy],by simp [Fo.ids];omega,g5⟩
theorem all_in (F:Fence) (n:Nat) (hf:F.fn 134) (hro:F.round=none) (p0:Option Addr) (w:World) :
  CallsIn F n Tryd.prog 134 #[.pointer p0] w fun e w'=>e=.returned (.func (.func 152) #[] #[.pointer (some ⟨w.heap.size,0,none⟩)])∧w'=w.alloc (.cells #[.pointer p0] 121):=by
 refine callsIn_of_wp Tryd.func134 rfl hf ?_ hro
 simp only [Tryd.ntmps134,List.size_toArray,List.length_cons,List.length_nil,Nat.reduceAdd,Nat.reduceSub,Array.replicate_succ,Array.replicate_zero,List.push_toArray,List.append_toArray,List.nil_append,List.cons_append]
 gi_wp2
 go_ret
 exact ⟨rfl,rfl⟩
def ahead_ {α:Type} (part:Nat→List α) (r:Nat):List α:=(List.range' 1 (r - 1)).flatMap part
theorem ahead_succ {α:Type} (part:Nat→List α) (r:Nat) (hr:1≤r):ahead_ part (r+1)=ahead_ part r++part r:=by
 unfold ahead_
 rw [show r+1 - 1=(r - 1)+1 by omega,List.range'_concat,List.flatMap_append]
 simp only [List.flatMap_cons,List.flatMap_nil,List.append_nil,Nat.one_mul]
 rw [show 1+(r - 1)=r by omega]
def AllI {A:Nat→Option Nat} (J:List (YE A)→World→Prop) (part:Nat→List (YE A)) (w0:World) (B0:Nat) (W:World) (v:Value) (V:World):Prop :=
 ∃ r:Nat,1≤r∧r≤4∧v=.int .i64 (r:Int)∧J (ahead_ part r) V∧Stp w0 B0 W V
def AllPost {A:Nat→Option Nat} (J:List (YE A)→World→Prop) (w0:World) (B0:Nat) (l:List (YE A)) (W:World) (e:Ending) (W':World):Prop:=(∃ v,e=.returned v)∧J l W'∧Stp w0 B0 W W'
theorem all1_in (F:Fence) (hd:F.depth=none) (h80:F.fn 152) (h81:F.fn 153) (h56:F.fn 156) (h76:F.fn 157) (hro:F.round=none) (l N B0 q:Nat) {w0:World} {n0 Fb:Nat} {A:Nat→Option Nat} {h:Nat→Nd} (m:Mem w0 n0 Fb A h)
  {G:Fo} (hG:RepTop h G) (hnd:G.ids.Nodup) (hroots:G.tops=[1,2,3]) (hA:∀ x∈G.ids,A x≠none) (h36:G.ids.length≤36)
  (J:List (YE A)→World→Prop) (hJ:Stb B0 J)
  (hY:∀ (q:Nat) (pre:List (YE A)) (x:YE A) (W:World),J pre W→Below w0.heap.size w0 W→pre.length < N→YieldAt F q Tryd.prog l #[.pointer (pa (A x.val)),.int .i64 x.dep] W (WalkPost J w0 B0 (pre++[x]) W))
  (hN:60000≤N) (es:List (YE A)) (hes:es.map YE.pr=pre1 0 G) (Bn:Nat) (W:World) (hBn:Boxed W Bn 121 (.pointer (some ⟨Fb,0,none⟩))) (hB:Below w0.heap.size w0 W) (hB0:B0≤W.heap.size) (hJ0:J [] W) :
  CallsIn F q Tryd.prog 152 #[.func (.yield l) #[] #[],.pointer (some ⟨Bn,0,none⟩)] W (AllPost J w0 B0 es W):=by
 -- the roots' parts
 have hrt:∀ r:Nat,1≤r→r≤3→r∈G.tops:=fun r h1 h2=>by rw [hroots];simp;omega
 obtain ⟨part,hpart⟩:∃ part:Nat→List (YE A),∀ r,1≤r→r≤3→(part r).map YE.pr=(r,0)::pre1 (0+1) (kf r G):=by
  have hok:∀ r:Nat,1≤r∧r≤3→∀ p∈(r,(0:Int))::pre1 (0+1) (kf r G),A p.1≠none∧0≤p.2∧p.2≤1000:=fun r hr p hp=>by
   obtain ⟨g1,g2,g3,g4,g5⟩:=roots_kf hG hnd (hrt r hr.1 hr.2)
   rcases List.mem_cons.1 hp with rfl|hp
   ·exact ⟨hA _ (tops_ids (hrt r hr.1 hr.2)),by simp,by simp⟩
   ·obtain ⟨a1,a2,a3⟩:=pre1_mem hp
    exact ⟨hA _ (g3 _ a1),by omega,by omega⟩
  refine ⟨fun r=>if hr:1≤r∧r≤3 then mkYE A _ (hok r hr) else [],fun r h1 h2=>?_⟩
  have hr:1≤r∧r≤3:=⟨h1,h2⟩
  simp only [dif_pos hr]
  exact mkYE_pr A _ (hok r hr)
 have hes2:es=ahead_ part 4:=by
  apply YE.inj_map
  rw [hes,pre1_kids G 0 hnd,hroots]
  show _=List.map YE.pr ([1,2,3].flatMap part)
  rw [map_flatMap']
  refine flatMap_congr' fun x hx=>?_
  have:1≤x∧x≤3:=by simp at hx;omega
  exact (hpart x this.1 this.2).symm
 have hpl:∀ r,1≤r→r≤3→(part r).length≤36:=fun r h1 h2=>by
  have h3:=congrArg List.length (hpart r h1 h2)
  have h4:=(roots_kf hG hnd (hrt r h1 h2)).2.2.2.1
  rw [List.length_map,List.length_cons,pre1_len] at h3
  omega
 have hal:∀ r,1≤r→r≤4→(ahead_ part r).length≤36 * 3:=fun r h1 h2=>by
  unfold ahead_
  refine Nat.le_trans (flatMap_len part 36 _ fun x hx=>?_) (by rw [List.length_range'];omega)
  have:=List.mem_range'.1 hx
  obtain ⟨i,hi,rfl⟩:=this
  exact hpl _ (by omega) (by omega)
 subst hes2
 have M:=a_ m
 have HB:=a_ hB
 have HBn:=a_ hBn
 have HJ0:=a_ hJ0
 have cB:=hBn.cell
 clear hes hB hBn hJ0
 refine callsIn_any hd (m:=8) ?_
 refine callsIn_of_wp Tryd.func152 rfl h80 ?_ hro
 simp only [Tryd.ntmps152,List.size_toArray,List.length_cons,List.length_nil,Nat.reduceAdd,Nat.reduceSub,Array.replicate_succ,Array.replicate_zero,List.push_toArray,List.append_toArray,List.nil_append,List.cons_append]
 gi_wp2
 gi_loopw [3] (fun v V=>AllI J part w0 B0 W v V) (fun v _=>4 - (intOf v).toNat)
 case atStart=>exact ⟨1,by omega,by omega,rfl,HJ0.out,Stp.refl _ _ _⟩
 case round =>
  obtain ⟨r,hr1,hr4,rfl,hJr,hSr⟩:=hrel
  have cB:=(hSr.kb _ _ _ (Or.inr (Or.inr (Or.inr (Or.inr rfl)))) HBn.out).cell
  by_cases hr3:r≤3
  ·have hd1:decide (r≤3)=true:=dt_ hr3
   have hd2:decide ((r:Int)≤3)=true:=dt_ (by omega)
   have cF:=(M.out.below (HB.out.trans hSr.below)).cF r (by omega)
   obtain ⟨g1,g2,g3,g4,g5⟩:=roots_kf hG hnd (hrt r hr1 hr3)
   have IH:=a_ (wlk_in_ F hd h81 h56 h76 hro l N B0 m J hJ hY 40 (kf r G) (by omega) (8 - 1) r 0 (part r) (ahead_ part r) _ g1 g5 (fun y hy=>hA y (g3 y hy)) (hA _ (tops_ids (hrt r hr1 hr3))) g2 (hpart r hr1 hr3) hJr (HB.out.trans hSr.below) (by have:=hSr.below.size;omega)
    (by have:=hal r hr1 hr4;omega) (by omega) (by omega) (by omega))
   have hi0:0≤(r:Int):=by omega
   have hi37:(r:Int) < 37:=by omega
   have HS:=a_ hSr
   have HR:=a_ (And.intro hr1 hr3)
   have HAS:=a_ (ahead_succ part r hr1)
   clear g1 g2 g3 g4 g5 hJr hSr
   gi_wp2_with (gi_at_call 153;refine (IH.out).mono ?_;clear IH;rintro e W6 ⟨rfl,hJ6,hS6⟩;have HJ6:=a_ hJ6;have HS6:=a_ hS6;clear hJ6 hS6)
   refine ⟨⟨r+1,by have:=HR.out;omega,by have:=HR.out;omega,by simp,by rw [HAS.out];exact HJ6.out,HS.out.trans HS6.out⟩,?_⟩
   have:=HR.out
   simp [intOf]
   omega
  ·have hd1:decide (r≤3)=false:=df_ hr3
   have hd2:decide ((r:Int)≤3)=false:=df_ (by omega)
   obtain rfl:r=4:=by omega
   gi_wp2
   go_end0
   exact ⟨⟨_,rfl⟩,hJr,hSr⟩
#print axioms all1_in
def goesOn {α:Type} (w0:World) (B:Nat) (I:List α→World→Prop) (xs:List α) (W:World):Exit→Act→World→Prop
 | .normal,_,W'=>I xs W'∧Stp w0 B W W'
 | _,_,_=>False
theorem stp_put {w0 U:World} {B:Nat} {l:Nat} {o:Obj} (o':Obj) (hl:U.heap[l]?=some o) (ho:o.isCells=false) (h0:w0.heap.size≤l) (hB:l < B):Stp w0 B U (U.putObj l o') :=
 ⟨(Below.refl _ _).grown (grownBy_putObj' U l o') (by have:=(Array.getElem?_eq_some_iff.1 hl).1;omega) (fun k e=>by cases e;exact h0),KeepsFrom.of_grownBy (grownBy_putObj' U l o') (fun j e=>by cases e;exact hB),KB.grown (grownBy_putObj' U l o') (fun r e=>by cases e;exact ⟨o,hl,ho⟩)⟩
theorem Stp.mono {w0 V W:World} {B B':Nat} (h:Stp w0 B V W) (hB:B≤B'):Stp w0 B' V W:=⟨h.below,KeepsFrom.mono h.from_ hB,h.kb⟩
theorem Stb.mono {β:Type} {B B':Nat} {J:β→World→Prop} (h:Stb B J) (hB:B≤B'):Stb B' J:=fun s V W row hs hg hr=>h s V W row hs hg fun r e=>⟨Nat.le_trans hB (hr r e).1,(hr r e).2⟩
theorem stb_obj {β:Type} {B g:Nat} {o:Obj} (hg:g < B):Stb B (fun (_:β) W=>W.heap[g]?=some o):=fun s V W row hs hgr hr =>
 (hgr.block g (Array.getElem?_eq_some_iff.1 hs).1 (fun e=>by have:=(hr g e.symm).1;omega)).trans hs
theorem Stb.and {β:Type} {B:Nat} {J J':β→World→Prop} (h:Stb B J) (h':Stb B J'):Stb B (fun s W=>J s W∧J' s W):=fun s V W row hs hg hr=>⟨h s V W row hs.1 hg hr,h' s V W row hs.2 hg hr⟩
theorem range_all {α:Type} {F:Fence} {n:Nat} {P:Program} {g:Operand} {ps:Array Tmp} {assign body:Code} {Q:Exit→Act→World→Prop} {a:Act} {w w0:World}
  (hd:F.depth=none) (hro:F.round=none) {gf:Nat} {lb:Array Value} (hg:a.eval g=.func (.func gf) #[] lb) (hFg:F.fn gf) (eg:∀ args w,(callFunc gf args).run P w=.ok (.enter gf args) w)
  {encs:α→Array Value} (hps:∀ x,(encs x).size=ps.size) (N:Nat) (xs:List α) (hw0:w0.heap.size≤w.heap.size)
  (hseq:∀ (l:Nat) (J:List α→World→Prop) (W:World),Stp w0 W.heap.size w W→Stb W.heap.size J →
   (∀ (q:Nat) (pre:List α) (x:α) (W1:World),J pre W1→Below w0.heap.size w0 W1→pre.length < N→YieldAt F q P l (encs x) W1 fun e W'=>e=.returned (.bool true)∧J (pre++[x]) W'∧Stp w0 W.heap.size W1 W')→J [] W →
   CallsIn F (n - 1) P gf (#[.func (.yield l) #[] #[]]++lb) W fun e W'=>(∃ v,e=.returned v)∧J xs W')
  (I:List α→World→Prop) (hI:Stb w.heap.size I) (h0:I [] w) (a₁:α→Act)
  (hassign:∀ (l:Nat) (x:α) (W:World) (K:Act→World→Prop),K (a₁ x) W →
   assign.wpIn (F.inRound l) (n - 1 - 1) P (Exit.then K (fun _ _ _=>False)) { tmps:=(ps.zip (encs x)).foldl (fun t (p,v)=>t.setIfInBounds p v) a.tmps,defers:=[] } W)
  (hbody:∀ (l:Nat) (pre:List α) (x:α) (W:World),I pre W→Below w0.heap.size w0 W→pre.length < N→body.wpIn (F.inRound l) (n - 1 - 1) P (goesOn w0 w.heap.size I (pre++[x]) W) (a₁ x) W)
  (hdone:∀ (D:Nat) (W:World),w.heap.size≤D→I xs W→W.heap[D]?=some (.deferred (some []))→Q .normal { a with defers:={ target:=.collected D,args:=#[] }::a.defers } W) :
  (Code.rangeFunc g ps assign body).wpIn F n P Q a w:=by
 refine wpIn_rangeFunc fun fn hfn=>?_
 rw [hro]
 have hdd:∀ k:Nat,(F.depth.isSome=true→1≤k):=fun k h=>by rw [hd] at h;cases h
 let rec_:LoopState→Option Code→Loop:=fun st pe=>{ state:=st,pending:=pe,fn:=fn,tmps:=a.tmps,params:=ps,assign:=assign,body:=body,defers:=w.heap.size }
 obtain ⟨rc,hrc⟩:∃ rc:LoopState→Option Code→Loop,rc=rec_:=⟨_,rfl⟩
 obtain ⟨W1,hW1⟩:∃ W1,W1=(w.alloc (.deferred (some []))).alloc (.loop (rc .ready none)):=⟨_,rfl⟩
 have hz1:W1.heap.size=w.heap.size+2:=by rw [hW1];simp
 have hL1:W1.heap[w.heap.size+1]?=some (.loop (rc .ready none)):=by
  have:=World.alloc_heap_new (w.alloc (.deferred (some []))) (.loop (rc .ready none))
  rw [World.size_alloc] at this
  rw [hW1];exact this
 have hK1:W1.heap[w.heap.size]?=some (.deferred (some [])):=by
  rw [hW1];exact (Below.heap_alloc _ _ _ (by simp)).trans (World.alloc_heap_new w _)
 have hS1:Stp w0 W1.heap.size w W1:=by rw [hW1];exact ((Stp.refl w0 _ w).alloc hw0 _).alloc (by simp;omega) _
 have hI1:I [] W1:=by rw [hW1];exact hI.alloc _ (hI.alloc _ h0)
 refine ⟨w.heap.size+1,[{ target:=.collected w.heap.size,args:=#[] }],W1,{ target:=.fn (.func gf) lb,args:=#[.func (.yield (w.heap.size+1)) #[] #[]] },W1,gf,
  #[.func (.yield (w.heap.size+1)) #[] #[]]++lb,W1,?_,?_,?_,?_,hdd n,?_⟩
 ·rw [hW1,hrc];exact run_enterLoop_outer _ _ _ _ _
 ·simp only [resolve,hg]
  simp [go_sem]
 ·intro f' hf';simp [Target.leads] at hf';subst hf';exact hFg
 ·simp [invoke,go_sem,eg]
 ·refine (hseq (w.heap.size+1) (fun pre W=>I pre W∧(W.heap[w.heap.size+1]?=some (.loop (rc .ready none))∧W.heap[w.heap.size]?=some (.deferred (some [])))) W1 hS1
   ((hI.mono (by omega)).and ((stb_obj (by omega)).and (stb_obj (by omega)))) ?_ ⟨hI1,hL1,hK1⟩).mono ?_
  ·rintro q pre x W ⟨hi,hl,hk⟩ hBW hlen
   have hlt:w.heap.size+1 < W.heap.size:=(Array.getElem?_eq_some_iff.1 hl).1
   have hy:=run_yield (P:=P) (args:=encs x) hl (by rw [hrc];exact hps x)
   rw [hrc] at hy
   refine ⟨fn,_,assign,body,hy,roundIn_any hd (m:=n - 1 - 1) (roundIn_of_wpIn hfn (hassign _ x W _ ⟨_,run_beginRound hl (by rw [hrc]),?_⟩))⟩
   obtain ⟨W2,hW2⟩:∃ W2,W2=W.putObj (w.heap.size+1) (.loop { rc .ready none with state:=.busy }):=⟨_,rfl⟩
   have hl2:W2.heap[w.heap.size+1]?=some (.loop { rc .ready none with state:=.busy }):=by rw [hW2];exact World.putObj_heap_same hlt
   have hk2:W2.heap[w.heap.size]?=some (.deferred (some [])):=by rw [hW2];exact (World.putObj_heap_other (by omega)).trans hk
   have hs2:Stp w0 W1.heap.size W W2:=by rw [hW2];exact stp_put _ hl rfl (by omega) (by omega)
   have hi2:I pre W2:=by rw [hW2];exact hI.put _ hi hl rfl (by omega)
   suffices key:body.wpIn (F.inRound (w.heap.size+1)) (n - 1 - 1) P (roundPost P (w.heap.size+1) fun e W'=>e=.returned (.bool true)∧(I (pre++[x]) W'∧(W'.heap[w.heap.size+1]?=some (.loop (rc .ready none))∧W'.heap[w.heap.size]?=some (.deferred (some []))))∧Stp w0 W1.heap.size W W') (a₁ x) W2 by
    rw [hW2,hrc] at key
    rw [hrc]
    exact key
   refine wpIn_mono (hbody _ pre x W2 hi2 (hBW.trans hs2.below) hlen) ?_
   rintro e a3 W3 hp
   cases e with
   | normal =>
    obtain ⟨hi3,hs3⟩:=hp
    have hl3:=hs3.from_.same _ _ (by omega) hl2 rfl
    have hk3:=hs3.from_.same _ _ (by omega) hk2 rfl
    have hr:=run_endRound (P:=P) (jump:=none) hl3
    have hlt3:=(Array.getElem?_eq_some_iff.1 hl3).1
    refine ⟨_,_,(by rw [hrc] at hr;exact hr),rfl,⟨hI.put _ hi3 hl3 rfl (by omega),?_,(World.putObj_heap_other (by omega)).trans hk3⟩,(hs2.trans (hs3.mono (by omega))).trans (stp_put _ hl3 rfl (by omega) (by omega))⟩
    rw [hrc]
    exact World.putObj_heap_same hlt3
   | ret=>exact hp.elim
   | exit id=>exact hp.elim
   | goto t=>exact hp.elim
   | panic ch=>exact hp.elim
   | outgrown=>exact hp.elim
  ·rintro e W2 ⟨⟨v,rfl⟩,hi,hl,hk⟩
   refine ⟨none,_,by have:=run_endLoop (P:=P) hl (by rw [hrc];simp [rec_]);rw [hrc] at this;exact this,hdone _ _ (Nat.le_refl _) (hI.put _ hi hl rfl (by omega)) ((World.putObj_heap_other (by omega)).trans hk)⟩
theorem rows_wide {n:Nat} {P:Program} {row:String} {args:Array Value} {w:World} {R:Value→World→Prop} (h:Rows P row args w R):RowsIn Fence.wide n P row args w R:=fun c cs _=>by
 obtain ⟨v,w',r,s⟩:=h c cs
 exact ⟨v,w',r,stepsIn_wide.2 s⟩
theorem ops_round {P:Program} {ops:Array Oper} {Q:Exit→Act→World→Prop} (l n:Nat) (hQ:¬ LetsOut Q) (hd:∀ (i:Nat) (o:Oper),ops[i]?=some o→∀ c,o.op≠.defer c) :
  ∀ (is:List Nat) (a:Act) (w:World),wpOps P ops Q is a w→wpOpsIn (Fence.wide.inRound l) n P ops Q is a w
 | [],a,w,h=>h
 | i::rest,a,w,h=>by
  unfold wpOps at h
  unfold wpOpsIn
  cases ho:ops[i]? with
  | none =>
   rw [ho] at h
   exact ops_round l n hQ hd rest a w h
  | some o =>
   rw [ho] at h
   simp only at h ⊢
   by_cases hw:Region.wanted o (yielded ops a.tmps)=true
   ·rw [if_pos hw] at h ⊢
    have h:=h.resolve_right fun e=>hQ e.2
    unfold Oper.wp at h
    refine ⟨fun _ _=>trivial,?_⟩
    rw [show (Fence.wide.inRound l).round=some l from rfl,Oper.semAt_eq (some l) _ _ (hd i o ho)]
    generalize (execOp a.eval o).run P w=r at h
    cases r with
    | ok x w' =>
     cases x with
     | value v=>exact ops_round l n hQ hd rest _ _ h
     | skip=>exact ops_round l n hQ hd rest _ _ h
     | defer d=>exact ops_round l n hQ hd rest _ _ h
     | enter f args =>
      refine ⟨fun e=>by simp [Fence.wide] at e,CallsIn.inRound l (callsIn_wide.2 (Calls.mono h fun e w'' he=>?_))⟩
      cases e with
      | returned v=>exact ops_round l n hQ hd rest _ _ he
      | panicked c=>exact he
      | outgrown=>exact he
     | row r args=>exact ⟨fun e=>by simp [Fence.wide] at e,rows_wide (n:=n - 1) (Rows.mono h fun v w'' he=>ops_round l n hQ hd rest _ _ he)⟩
     | round=>exact h.elim
     | _=>first|exact h.elim|exact h
    | halt x w'=>cases x <;> first|exact h.elim|exact h
   ·rw [if_neg hw] at h ⊢
    exact ⟨fun _ _=>trivial,ops_round l n hQ hd rest _ _ h⟩
theorem startR_ {P:Program} {ops:Array Oper} {Q:Exit→Act→World→Prop} {S:World→Prop} {ds:List Nat} {id n k lp:Nat} {a:Act} {w:World} (l:Array Bool) (hQ:¬ LetsOut Q) (hd:∀ (i:Nat) (o:Oper),ops[i]?=some o→∀ c,o.op≠.defer c)
  (hm:P.follows .mixedOrders=true) (hn:ops.size=n) (hl:Array.replicate n false=l) (hS:S w.drew) (h:S w.drew→wpAnyLast P .any ops Q S ds n l a w.drew):(Code.region id ops true).wpIn (Fence.wide.inRound lp) k P Q a w :=
 wpIn_region_draw fun t=>by
  subst hn
  subst hl
  have:=wpAny_sound ops.size t (Array.replicate ops.size false) a w.drew (wpAny_of_last _ _ _ _ (h hS))
  simp only [Region.schedule,hm,Bool.true_or,if_true]
  exact ops_round lp k hQ hd _ _ _ this
attribute [local go_sem] Oper.semAt_some

def onN (K:Act→World→Prop) (Q:Exit→Act→World→Prop):Exit→Act→World→Prop
 | .normal,a,w=>K a w
 | .panic c,a,w=>Q (.panic c) a w
 | .outgrown,a,w=>Q .outgrown a w
 | .ret,a,w=>Q .ret a w
 | .exit i,a,w=>Q (.exit i) a w
 | .goto t,a,w=>Q (.goto t) a w
theorem upon_on {P:Program} {o:Oper} {a:Act} {K:Act→World→Prop} {Q:Exit→Act→World→Prop} {r:Result Next} (h:o.upon P a (onN K Q .normal) (onN K Q) r):o.upon P a K Q r:=by
 cases r with
 | ok x w'=>cases x <;> exact h
 | halt x w'=>cases x <;> exact h
theorem step_of_list {P:Program} {ops:Array Oper} {Q:Exit→Act→World→Prop} {K:Act→World→Prop} {o:Oper} {a:Act} {w:World} (hQ:¬ LetsOut Q) (h:wpList P ops (onN K Q) [o] a w) :
  if Region.wanted o (yielded ops a.tmps)=true then Oper.wp P o a w K Q else K (a.put o.dst undef) w:=by
 unfold wpList at h
 by_cases hw:Region.wanted o (yielded ops a.tmps)=true
 ·rw [if_pos hw] at h ⊢
  exact upon_on (h.resolve_right fun e=>hQ e.2)
 ·rw [if_neg hw] at h ⊢
  exact h
theorem step_skip {P:Program} {ops:Array Oper} {Q:Exit→Act→World→Prop} {K:Act→World→Prop} {o:Oper} {a:Act} {w w1:World} (hw:Region.wanted o (yielded ops a.tmps)=true) (hrun:(execOp a.eval o).run P w=.ok .skip w1) (h:K (a.put o.dst undef) w1) :
  if Region.wanted o (yielded ops a.tmps)=true then Oper.wp P o a w K Q else K (a.put o.dst undef) w:=by
 rw [if_pos hw]
 unfold Oper.wp
 rw [hrun]
 exact h
def noDefer (o:Oper):Bool:=match o.op with|.defer _=>false|_=>true
theorem noDefer_of {ops:Array Oper} (h:ops.toList.all noDefer=true):∀ (i:Nat) (o:Oper),ops[i]?=some o→∀ c,o.op≠.defer c:=fun i o ho c e=>by
 have h1:o∈ops.toList:=Array.mem_toList_iff.2 (Array.mem_of_getElem? ho)
 have h2:=List.all_eq_true.1 h o h1
 unfold noDefer at h2
 rw [e] at h2
 cases h2
def rowsOf {A:Nat→Option Nat} (h:Nat→Nd) (l:List (YE A)):List S69:=l.map fun e=>⟨(e.val:Int),e.dep,(h e.val).t⟩
def RowsI {A:Nat→Option Nat} (h:Nat→Nd) (w:World) (g:Nat) (pre:List (YE A)) (V:World):Prop :=
 (∃ v,Boxed V g 62 v∧Kd.R k69 69 V w.heap.size (fun _=>True) v (rowsOf h pre))∧Below w.heap.size w V
theorem stb_below {β:Type} {B:Nat} {w:World} (h:w.heap.size≤B):Stb B (fun (_:β) V=>Below w.heap.size w V):=fun s V W row hs hg hr =>
 hs.grown hg hs.size (fun k e=>Nat.le_trans h (hr k e).1)
theorem rowsI_stb {A:Nat→Option Nat} {h:Nat→Nd} {w:World} {g B:Nat} (hB:w.heap.size≤B):Stb B (RowsI (A:=A) h w g):=fun s V W row hs hg hr=>by
 obtain ⟨⟨v,hv,hR⟩,hb⟩:=hs
 refine ⟨⟨v,hv.kept hg fun e=>?_,Kd.R_mono (Kd.R_step (Kd.R_bound hR) fun k hk hlt=>hg.block k hlt fun e=>?_) (fun _ _=>trivial)⟩,stb_below (β:=Unit) hB () V W row hb hg hr⟩
 ·obtain ⟨_,o,h1,h2⟩:=hr g e.symm
  have h3:V.heap[g]?=some (.cells #[v] 62 (0,0)):=hv
  rw [h3] at h1
  rcases h2 with h2|⟨u,h2⟩
  ·rw [←sj_ h1] at h2;cases h2
  ·rw [←sj_ h1] at h2;simp at h2
 ·obtain ⟨_,o,h1,h2⟩:=hr k e.symm
  obtain ⟨_,_,_,q,hq,cells,h3⟩:=hk
  rw [h3] at h1
  have hq:q=69:=by
   rcases List.mem_cons.1 hq with e|e
   ·exact e
   ·exact absurd e (by simp [k69,Kd.iso,Kd.pair,Kd.int,Kd.string,Kd.scalar])
  subst hq
  rcases h2 with h2|⟨u,h2⟩
  ·rw [←sj_ h1] at h2;cases h2
  ·rw [←sj_ h1] at h2;simp at h2
theorem letsOut_goes {α:Type} {w0:World} {B id:Nat} {I:List α→World→Prop} {xs:List α} {W:World}:¬ LetsOut (Exit.inBlock id (goesOn w0 B I xs W)):=fun ⟨_,_,h⟩=>h
theorem fl_pre {h:Nat→Nd}:∀ {F:Fo} {up d:Nat},Rep h up F→F.fl d=(pre1 d F).map fun p=>⟨(p.1:Int),p.2,(h p.1).t⟩
 | .nil,_,_,_=>rfl
 | .nd i t k n,up,d,⟨h1,h2,h3,h4⟩=>by
  have e:=fl_pre (d:=d+1) h3
  rw [show ((d+1:Nat):Int)=(d:Int)+1 from rfl] at e
  simp only [Fo.fl,pre1,List.map_cons,List.map_append]
  rw [e,fl_pre h4,h2]
theorem fl_top {h:Nat→Nd}:∀ {F:Fo} {d:Nat},RepTop h F→F.fl d=(pre1 d F).map fun p=>⟨(p.1:Int),p.2,(h p.1).t⟩
 | .nil,_,_=>rfl
 | .nd i t k n,d,⟨h1,h2,h3,h4⟩=>by
  have e:=fl_pre (d:=d+1) h3
  rw [show ((d+1:Nat):Int)=(d:Int)+1 from rfl] at e
  simp only [Fo.fl,pre1,List.map_cons,List.map_append]
  rw [e,fl_top h4,h2]
theorem stp_app {w V w3:World} {B g:Nat} {v:Value} {ok:Nat→Prop} {l:List S69} (hR:Kd.R k69 69 V w.heap.size ok v l) (hbox:Boxed V g 62 v) (hg:V.drew.grownBy w3 v.ownBlock) (hV:w.heap.size≤V.heap.size) (hgb:w.heap.size≤g) (u:Value):Stp w B V (w3.setCell ⟨g,0,none⟩ u):=by
 have hcells:∀ k,some k=v.ownBlock→∃ cells,V.heap[k]?=some (.cells cells 69 (0,0)):=fun k e=>by
  obtain ⟨_,hlt,q,hq,cells,hc⟩:=((Kd.R_bound hR).1 k e.symm).2
  have hq:q=69:=by
   rcases List.mem_cons.1 hq with e|e
   ·exact e
   ·exact absurd e (by simp [k69,Kd.iso,Kd.pair,Kd.int,Kd.string,Kd.scalar])
  subst hq
  exact ⟨cells,hc⟩
 have h1:Below w.heap.size V w3:=((Below.refl w.heap.size V).drew).grown hg hV (fun k e=>Kd.R_base hR k e)
 refine ⟨h1.setCell (p:=⟨g,0,none⟩) hgb _,?_,?_⟩
 ·refine KeepsFrom.trans ⟨hg.size,fun k o _ hk ho=>(hg.block k (Array.getElem?_eq_some_iff.1 hk).1 fun e=>?_).trans hk⟩ ((KeepsOthers.setCell w3 ⟨g,0,none⟩ u).from B)
  obtain ⟨cells,hc⟩:=hcells k e
  rw [show V.heap[k]?=some o from hk] at hc
  rw [sj_ hc] at ho
  cases ho
 ·intro b t x ht hb
  have hb2:V.heap[b]?=some (.cells #[x] t (0,0)):=hb
  have hne:t≠69∧t≠62:=by rcases ht with rfl|rfl|rfl|rfl|rfl <;> decide
  have hb3:Boxed w3 b t x:=Boxed.kept (W:=V.drew) hb hg fun e=>by
   obtain ⟨cells,hc⟩:=hcells b e
   rw [hb2] at hc
   simp at hc
   exact hne.1 hc.2
  refine hb3.other (fun e=>?_) u
  subst e
  rw [show V.heap[b]?=some (.cells #[v] 62 (0,0)) from hbox] at hb2
  simp at hb2
  exact hne.2 hb2.2.symm
theorem rows_any {w:World} {n0 Fb:Nat} {A:Nat→Option Nat} {h:Nat→Nd} (m:Mem w n0 Fb A h) {G:Fo} (hG:RepTop h G) (hnd:G.ids.Nodup) (hroots:G.tops=[1,2,3]) (hA:∀ x∈G.ids,A x≠none) (h36:G.ids.length≤36) :
  Calls Tryd.prog 95 #[.pointer (some ⟨Fb,0,none⟩)] w fun e w'=>∃ v:Value,e=.returned v∧Kd.R k69 69 w' w.heap.size (fun _=>True) v (G.fl 0)∧Below w.heap.size w w':=by
 obtain ⟨es,hes⟩:∃ es:List (YE A),es.map YE.pr=pre1 0 G:=by
  have hok:∀ p∈pre1 0 G,A p.1≠none∧0≤p.2∧p.2≤1000:=fun p hp=>by
   obtain ⟨a1,a2,a3⟩:=pre1_mem hp
   exact ⟨hA _ a1,by omega,by omega⟩
  exact ⟨mkYE A _ hok,mkYE_pr A _ hok⟩
 have hfl:rowsOf h es=G.fl 0:=by
  rw [fl_top hG]
  show _=(pre1 ((0:Nat):Int) G).map _
  rw [show ((0:Nat):Int)=0 from rfl,←hes,List.map_map]
  rfl
 refine (callsIn_wide (n:=8)).1 ?_
 refine callsIn_of_wp_marks Tryd.func95 rfl trivial ?_ rfl
 simp only [Tryd.ntmps95,List.size_toArray,List.length_cons,List.length_nil,Nat.reduceAdd,Nat.reduceSub,Array.replicate_succ,Array.replicate_zero,List.push_toArray,List.append_toArray,List.nil_append,List.cons_append]
 gi_wp2_with (refine ⟨trivial,?_⟩;gi_at_call 134;refine (all_in Fence.wide _ trivial rfl _ _).mono ?_;rintro e w' ⟨rfl,rfl⟩)
 obtain ⟨w2,hw2⟩:∃ w2,w2=((w.alloc (.cells #[] 69)).alloc (.cells #[.slice (some ⟨w.heap.size,0,none⟩) 0 0] 62)).alloc (.cells #[.pointer (some ⟨Fb,0,none⟩)] 121):=⟨_,rfl⟩
 have bT:=(Boxed.new (w.alloc (.cells #[] 69)) 62 (.slice (some ⟨w.heap.size,0,none⟩) 0 0)).alloc (.cells #[.pointer (some ⟨Fb,0,none⟩)] 121)
 have bF:=Boxed.new ((w.alloc (.cells #[] 69)).alloc (.cells #[.slice (some ⟨w.heap.size,0,none⟩) 0 0] 62)) 121 (.pointer (some ⟨Fb,0,none⟩))
 simp only [World.size_alloc] at bT bF
 have hz2:w2.heap.size=w.heap.size+3:=by rw [hw2];simp
 have hB2:Below w.heap.size w w2:=by rw [hw2];exact ((((Below.refl _ w).alloc (Nat.le_refl _) _).alloc (by simp) _).alloc (by simp;omega) _)
 have hR2:Kd.R k69 69 w2 w.heap.size (fun _=>True) (.slice (some ⟨w.heap.size,0,none⟩) 0 0) (rowsOf h ([]:List (YE A))):=by
  rw [hw2]
  refine Kd.R_alloc (Kd.R_alloc ⟨fun _ _=>trivial,[],?_,Reps.none _ _⟩ _) _
  have h0:(w.alloc (.cells #[] 69)).ownsRow w.heap.size 69 3 (.slice (some ⟨w.heap.size,0,none⟩) 0 0) 0 []:=by
   simpa using World.ownsRow_lit (base:=w.heap.size) (e:=69) (size:=3) w #[] 0 (Nat.le_refl _) (by simp [maxLen]) (by simp)
  exact h0
 rw [←hw2] at bT bF ⊢
 clear hw2
 refine range_all (w0:=w) rfl rfl (gf:=152) (lb:=#[.pointer (some ⟨w.heap.size+1+1,0,none⟩)]) rfl trivial (enters_of Tryd.func152 (by kernel_rfl) rfl)
  (encs:=fun x:YE A=>#[.pointer (pa (A x.val)),.int .i64 x.dep]) (fun _=>by rfl) 60000 es (by omega)
  (fun l J W hSW hJ hY hJ0=>(all1_in Fence.wide rfl trivial trivial trivial trivial rfl l 60000 W.heap.size _ m hG hnd hroots hA h36 J hJ hY (Nat.le_refl _) es hes (w.heap.size+1+1) W (hSW.kb _ _ _ (Or.inr (Or.inr (Or.inr (Or.inr rfl)))) bF) (hB2.trans hSW.below) (Nat.le_refl _) hJ0).mono fun e W' hp=>⟨hp.1,hp.2.1⟩)
  (RowsI h w (w.heap.size+1)) (rowsI_stb (by omega)) ⟨⟨_,bT,hR2⟩,hB2⟩
  (fun x=>{ tmps:=#[.pointer (some ⟨Fb,0,none⟩),undef,.slice none 0 0,.pointer (some ⟨w.heap.size+1,0,none⟩),.pointer (pa (A x.val)),.int .i64 x.dep,.slice (some ⟨w.heap.size,0,none⟩) 0 0,.pointer (some ⟨Fb,0,none⟩),.func (.func 152) #[] #[.pointer (some ⟨w.heap.size+1+1,0,none⟩)],.pointer (pa (A x.val)),.int .i64 x.dep,undef,undef,undef,undef,undef,undef,undef,undef,undef,undef,undef,undef,undef,undef],defers:=[] }) ?assign ?body ?done
 case assign =>
  intro l x W K hK
  gi_wp2
  exact hK
 case body =>
  rintro l pre x V ⟨⟨v,hbox,hR⟩,hBw⟩ hBV hlt
  obtain ⟨c,hc⟩:=Option.ne_none_iff_exists'.1 x.ok
  have MV:=m.below hBV
  have q0:=MV.c0 hc
  have q1:=MV.c1 hc
  have qb:=hbox.cell
  have qf:=hbox.frozen
  have hlen:(rowsOf h pre).length < 60000:=by unfold rowsOf;rw [List.length_map];exact hlt
  rw [hc,pa_some]
  refine wpIn_block ?_
  refine startR_ (n:=14) (S:=fun w'=>w'.cell? ⟨w.heap.size+1,0,none⟩=some v∧w'.cell? ⟨c,0,none⟩=some (.int .i64 (x.val:Int))∧w'.cell? ⟨c,1,none⟩=some (.string (h x.val).t)) (ds:=[12,13]) #[false,false,false,false,false,false,false,false,false,false,false,false,false,false] letsOut_goes (noDefer_of (by kernel_rfl)) (by kernel_rfl) rfl rfl ⟨qb,q0,q1⟩ (fun hHeld=>?_)
  clear q0 q1
  refine take_ (i:=0) (N:=some 11) (v:=?_) (a':=?_) #[true,false,false,false,false,false,false,false,false,false,false,false,false,false] rfl rfl (by kernel_rfl) (fun _ _ _ h=>h) (Or.inl ⟨by rfl,?_⟩) hHeld ?_ ?_
  rotate_left
  ·rintro w' ⟨s0,s1,s2⟩
   go_simp
   with_reducible rfl
  rotate_left
  ·simp only [Act.put,List.setIfInBounds_toArray,List.set_cons_zero,List.set_cons_succ,i64_w,i32_w]
   rfl
  refine pure_ (i:=1) (N:=some 12) (v:=?_) (a':=?_) #[true,true,false,false,false,false,false,false,false,false,false,false,false,false] rfl rfl (by kernel_rfl) (fun _ _ _ h=>h) (Or.inl ⟨by rfl,?_⟩) ?_ ?_
  rotate_left
  ·intro w'
   go_simp
   with_reducible rfl
  rotate_left
  ·simp only [Act.put,List.setIfInBounds_toArray,List.set_cons_zero,List.set_cons_succ,i64_w,i32_w]
   rfl
  refine pure_ (i:=2) (N:=some 13) (v:=?_) (a':=?_) #[true,true,true,false,false,false,false,false,false,false,false,false,false,false] rfl rfl (by kernel_rfl) (fun _ _ _ h=>h) (Or.inl ⟨by rfl,?_⟩) ?_ ?_
  rotate_left
  ·intro w'
   go_simp
   with_reducible rfl
  rotate_left
  ·simp only [Act.put,List.setIfInBounds_toArray,List.set_cons_zero,List.set_cons_succ,i64_w,i32_w]
   rfl
  refine pure_ (i:=3) (N:=some 14) (v:=?_) (a':=?_) #[true,true,true,true,false,false,false,false,false,false,false,false,false,false] rfl rfl (by kernel_rfl) (fun _ _ _ h=>h) (Or.inl ⟨by rfl,?_⟩) ?_ ?_
  rotate_left
  ·intro w'
   go_simp
   with_reducible rfl
  rotate_left
  ·simp only [Act.put,List.setIfInBounds_toArray,List.set_cons_zero,List.set_cons_succ,i64_w,i32_w]
   rfl
  refine take_ (i:=4) (N:=some 15) (v:=?_) (a':=?_) #[true,true,true,true,true,false,false,false,false,false,false,false,false,false] rfl rfl (by kernel_rfl) (fun _ _ _ h=>h) (Or.inl ⟨by rfl,?_⟩) hHeld ?_ ?_
  rotate_left
  ·rintro w' ⟨s0,s1,s2⟩
   go_simp
   with_reducible rfl
  rotate_left
  ·simp only [Act.put,List.setIfInBounds_toArray,List.set_cons_zero,List.set_cons_succ,i64_w,i32_w]
   rfl
  refine pure_ (i:=5) (N:=some 16) (v:=?_) (a':=?_) #[true,true,true,true,true,true,false,false,false,false,false,false,false,false] rfl rfl (by kernel_rfl) (fun _ _ _ h=>h) (Or.inl ⟨by rfl,?_⟩) ?_ ?_
  rotate_left
  ·intro w'
   go_simp
   with_reducible rfl
  rotate_left
  ·simp only [Act.put,List.setIfInBounds_toArray,List.set_cons_zero,List.set_cons_succ,i64_w,i32_w]
   rfl
  refine pure_ (i:=6) (N:=some 17) (v:=?_) (a':=?_) #[true,true,true,true,true,true,true,false,false,false,false,false,false,false] rfl rfl (by kernel_rfl) (fun _ _ _ h=>h) (Or.inl ⟨by rfl,?_⟩) ?_ ?_
  rotate_left
  ·intro w'
   go_simp
   with_reducible rfl
  rotate_left
  ·simp only [Act.put,List.setIfInBounds_toArray,List.set_cons_zero,List.set_cons_succ,i64_w,i32_w]
   rfl
  refine pure_ (i:=7) (N:=some 18) (v:=?_) (a':=?_) #[true,true,true,true,true,true,true,true,false,false,false,false,false,false] rfl rfl (by kernel_rfl) (fun _ _ _ h=>h) (Or.inl ⟨by rfl,?_⟩) ?_ ?_
  rotate_left
  ·intro w'
   go_simp
   with_reducible rfl
  rotate_left
  ·simp only [Act.put,List.setIfInBounds_toArray,List.set_cons_zero,List.set_cons_succ,i64_w,i32_w]
   rfl
  refine pure_ (i:=8) (N:=some 19) (v:=?_) (a':=?_) #[true,true,true,true,true,true,true,true,true,false,false,false,false,false] rfl rfl (by kernel_rfl) (fun _ _ _ h=>h) (Or.inl ⟨by rfl,?_⟩) ?_ ?_
  rotate_left
  ·intro w'
   go_simp
   with_reducible rfl
  rotate_left
  ·simp only [Act.put,List.setIfInBounds_toArray,List.set_cons_zero,List.set_cons_succ,i64_w,i32_w]
   rfl
  refine take_ (i:=9) (N:=some 20) (v:=?_) (a':=?_) #[true,true,true,true,true,true,true,true,true,true,false,false,false,false] rfl rfl (by kernel_rfl) (fun _ _ _ h=>h) (Or.inl ⟨by rfl,?_⟩) hHeld ?_ ?_
  rotate_left
  ·rintro w' ⟨s0,s1,s2⟩
   go_simp
   with_reducible rfl
  rotate_left
  ·simp only [Act.put,List.setIfInBounds_toArray,List.set_cons_zero,List.set_cons_succ,i64_w,i32_w]
   rfl
  refine pure_ (i:=10) (N:=some 21) (v:=?_) (a':=?_) #[true,true,true,true,true,true,true,true,true,true,true,false,false,false] rfl rfl (by kernel_rfl) (fun _ _ _ h=>h) (Or.inl ⟨by rfl,?_⟩) ?_ ?_
  rotate_left
  ·intro w'
   go_simp
   with_reducible rfl
  rotate_left
  ·simp only [Act.put,List.setIfInBounds_toArray,List.set_cons_zero,List.set_cons_succ,i64_w,i32_w]
   rfl
  refine one_ (i:=11) (N:=some 22) #[true,true,true,true,true,true,true,true,true,true,true,true,false,false] rfl rfl (by kernel_rfl) (by decide) (fun K hK=>?_)
  refine event_step (v:=.slice (some ⟨V.heap.size,0,none⟩) 1 1) (w1:=V.drew.alloc (.cells #[.int .i64 (x.val:Int),.int .i64 x.dep,.string (h x.val).t] 69)) (by rfl) (by first|(go_simp;done)|(go_simp;rfl)) ?_
  refine hK.out _ _ ⟨cell_alloc_f _ hHeld.1,cell_alloc_f _ hHeld.2.1,cell_alloc_f _ hHeld.2.2⟩ (fun _=>?_)
  clear hK K
  refine no_ 22 ?_
  refine last_ (i:=12) (N:=some 23) #[true,true,true,true,true,true,true,true,true,true,true,true,true,false] rfl rfl (by kernel_rfl) (by decide) (fun K hK=>?_)
  refine step_of_list letsOut_goes ?_
  have hBd:Below w.heap.size w V.drew:=hBw.drew
  refine Kd.R_append k69 (W:=V.drew) (w0:=w) w.heap.size rfl (.tmp 11) (.tmp 22) 62 69 (.agg #[(.int .i64 0),(.int .i64 0),(.string ⟨#[]⟩)]) 32 rfl Tryd.underlying62 info69 rfl (by decide) (by omega) v (rowsOf h pre) ⟨(x.val:Int),x.dep,(h x.val).t⟩ [.int .i64 (x.val:Int),.int .i64 x.dep,.string (h x.val).t] (fun _=>True) (fun _=>False) rfl rfl (k69_mkM _ _ _ ⟨(x.val:Int),x.dep,(h x.val).t⟩) (fun _ hk=>hk.elim) (fun _ _=>trivial) (Kd.R_drew hR) hBd hBd.size (by omega) ?_
  intro v1 w3 hR3 hB3 hg3 hat3
  refine hK.out _ _ ?_
  clear hK K
  have hb3:Boxed w3 (w.heap.size+1) 62 v:=Boxed.kept (W:=V.drew) hbox hg3 (Kd.R_ne hR (show V.heap[w.heap.size+1]?=some (.cells #[v] 62 (0,0)) from hbox) (by decide))
  obtain ⟨A3,k3,rfl⟩:=Kd.R_slice hR3
  have s1:=hb3.cell
  have s2:=hb3.frozen
  refine no_ 23 ?_
  refine last_ (i:=13) (N:=none) #[true,true,true,true,true,true,true,true,true,true,true,true,true,true] rfl rfl (by kernel_rfl) (by decide) (fun K hK=>?_)
  refine step_skip (w1:=w3.setCell ⟨w.heap.size+1,0,none⟩ (.slice A3 (rowsOf h pre++[(⟨(x.val:Int),x.dep,(h x.val).t⟩:S69)]).length k3)) (by rfl) (by first|(go_simp;done)|(go_simp;rfl)) ?_
  refine hK.out _ _ ?_
  clear hK K
  refine done_ (by kernel_rfl) ?_
  have hro:rowsOf h (pre++[x])=rowsOf h pre++[(⟨(x.val:Int),x.dep,(h x.val).t⟩:S69)]:=by unfold rowsOf;rw [List.map_append];rfl
  refine ⟨⟨⟨_,hb3.set _,?_⟩,hB3.setCell (p:=⟨w.heap.size+1,0,none⟩) (by simp) _⟩,stp_app hR hbox hg3 hBw.size (by simp) _⟩
  rw [hro]
  exact Kd.R_mono (Kd.R_far (p:=⟨w.heap.size+1,0,none⟩) (Kd.R_types hR3 hb3 (by decide)) (fun k hk=>hk.2) _) (fun _ _=>trivial)
 case done =>
  rintro D V hD ⟨⟨v,hbox,hR⟩,hBw⟩ hK
  have cT:=hbox.cell
  have HR:=a_ hR
  have HB:=a_ hBw
  clear hbox hR hBw
  gi_wp2
  refine ⟨by simp,.inl ⟨_,_,rfl,run_takeDeferred hK,?_⟩⟩
  refine ⟨_,results_tmp rfl _ _ _,_,rfl,?_,HB.out.trans (belowK_b (w:=w) (Nat.le_refl _) V D _ _ (by omega) hK rfl rfl)⟩
  rw [←hfl]
  refine Kd.R_mono (Kd.R_step (Kd.R_bound HR.out) fun k hk hlt=>World.putObj_heap_other ?_) (fun _ _=>trivial)
  rintro rfl
  obtain ⟨_,_,_,q,hq,cells,h3⟩:=hk
  rw [h3] at hK
  cases hK
end Go.Proofs.YtdpklbomhdpimaaDoor.P
namespace Go.Proofs.YtdpklbomhdpimaaDoor.P
open Go.RowKit Go.Proofs.YtdpklbomhdpimaaDoorW.PrintWords Go.Proofs.YtdpklbomhdpimaaDoorW.PrintLast Go.Proofs.YtdpklbomhdpimaaDoorW.PrintMore Go.Proofs.YtdpklbomhdpimaaDoor.PL Go.Proofs.YtdpklbomhdpimaaDoor.FP
theorem made_num {a:Int} (h:madeB a=true):∃ i:Nat,a=(i:Int)∧4≤i∧i < 37:=by
 obtain ⟨h0,h1⟩:=made_small a h
 obtain ⟨i,rfl⟩:=Int.eq_ofNat_of_zero_le h0
 refine ⟨i,rfl,?_,by omega⟩
 rcases Nat.lt_or_ge i 4 with g|g
 ·exfalso
  have:i=0∨i=1∨i=2∨i=3:=by omega
  rcases this with rfl|rfl|rfl|rfl <;> exact absurd h (by decide)
 ·exact g
theorem apply_any {w:World} {n0 F:Nat} {A:Nat→Option Nat} {h:Nat→Nd} {G:Fo} (t:At w n0 F A h G) (hn0:n0≤w.heap.size) (kd id up at_:Int) (s:ByteArray) (hk:kd=1∨kd=2∨kd=3) (hm:madeB id=true) :
  Calls Tryd.prog 94 #[.pointer (some ⟨F,0,none⟩),ChV kd id up at_ s] w (ApplyPost w n0 F (doF G kd id up at_ s)):=by
 obtain ⟨i,rfl,h4,h37⟩:=made_num hm
 have hi0:i≠0:=by omega
 have hit:i∉G.tops:=by rw [t.tops];simp;omega
 have hcase:fndF G (i:Int)=0∨fndF G (i:Int)=i:=by unfold fndF;split <;> simp
 rcases hk with rfl|rfl|rfl
 ·unfold ChV doF
  rw [if_pos rfl,if_neg (by decide),if_pos rfl]
  by_cases h1:fndF G (i:Int)=0
  ·rw [if_pos h1]
   exact apply_make_yes t hn0 i up at_ s h1 hi0 h37
  ·rw [if_neg h1]
   exact apply_make_no t hn0 _ up at_ s h1
 ·unfold ChV doF
  rw [if_neg (by decide),if_pos rfl,if_pos rfl]
  by_cases h1:fndF G (i:Int)=0
  ·rw [if_pos h1];exact apply_text_no t hn0 _ s h1
  ·rw [if_neg h1];exact apply_text_yes t hn0 _ s _ rfl h1
 ·unfold ChV doF
  rw [if_neg (by decide),if_neg (by decide),if_neg (by decide),if_neg (by decide)]
  by_cases h1:fndF G (i:Int)=0
  ·rw [if_pos h1];exact apply_move_no t hn0 _ up at_ (fun g=>g.1 h1)
  ·rw [if_neg h1]
   have h2:=hcase.resolve_left h1
   by_cases hu:under (fndF G (i:Int)) (fndF G up) G
   ·rw [if_pos hu];exact apply_move_no t hn0 _ up at_ (fun g=>g.2 hu)
   ·rw [if_neg hu]
    rw [h2] at hu ⊢
    exact apply_move_yes t hn0 i up at_ h2 hi0 hit hu
theorem At.len {w:World} {n0 F:Nat} {A:Nat→Option Nat} {h:Nat→Nd} {G:Fo} (t:At w n0 F A h G):G.ids.length≤36:=by
 have:=nodup_len 37 (0::G.ids) (List.nodup_cons.2 ⟨fun g=>t.rep.ne0 0 g rfl,t.nd⟩) fun x hx=>by
  rcases List.mem_cons.1 hx with rfl|hx
  ·omega
  ·obtain ⟨b,hb⟩:=t.ok hx;exact t.m.rng x b hb
 simp only [List.length_cons] at this
 omega
def impl_OpDo.f (k:Nat) (l0:List S69) (a0 a1 a2 a3:Int) (a4:ByteArray):Option (List S69) :=
 (impl_changeOf.f k a0 a1 a2 a3 a4).bind fun ok=>some (if ok=true then (if treeB l0=true then (doF (toFo l0) a0 a1 a2 a3 a4).fl 0 else []) else [])
theorem impl_OpDo.mono (l0:List S69) (a0 a1 a2 a3:Int) (a4:ByteArray) (k:Nat):LeO (impl_OpDo.f k l0 a0 a1 a2 a3 a4) (impl_OpDo.f (k+1) l0 a0 a1 a2 a3 a4):=by
 unfold impl_OpDo.f
 exact LeO.bind (impl_changeOf.mono _ _ _ _ _ _) (fun _=>LeO.refl _)
theorem changeOf_yes {k:Nat} {a0 a1 a2 a3:Int} {a4:ByteArray} (h:impl_changeOf.f k a0 a1 a2 a3 a4=some true):(a0=1∨a0=2∨a0=3)∧madeB a1=true:=by
 unfold impl_changeOf.f at h
 rw [isMade_f] at h
 simp only [Option.bind_some] at h
 cases hm:madeB a1 with
 | false=>rw [hm] at h;simp at h
 | true =>
  refine ⟨?_,rfl⟩
  rw [hm,if_pos rfl] at h
  by_cases h1:a0=1
  ·exact Or.inl h1
  ·by_cases h2:a0=2
   ·exact Or.inr (Or.inl h2)
   ·by_cases h3:a0=3
    ·exact Or.inr (Or.inr h3)
    ·rw [if_neg h1,if_neg h2,if_neg h3] at h;simp at h
def OpDoPost (w:World) (r:List S69) (e:Ending) (w':World):Prop:=∃ v0_:Value,e=.returned v0_∧Kd.R k69 69 w' w.heap.size (fun _=>True) v0_ r∧Below w.heap.size w w'
theorem opDo_notree (k:Nat) (A0:Option Addr) (c0:Nat) (l0:List S69) (a0 a1 a2 a3:Int) (a4:ByteArray) (ok:Bool) (w:World) (hr0:Kd.C k69 w A0 l0.length l0) (hc0:l0.length≤c0) (hok:impl_changeOf.f k a0 a1 a2 a3 a4=some ok) (ht:treeB l0=false) (hG:Glob w) :
  Calls Tryd.prog 40 #[.slice A0 l0.length c0,.agg #[.int .i64 a0,.int .i64 a1,.int .i64 a2,.int .i64 a3,.string a4]] w (OpDoPost w []):=by
 have HR:=a_ hr0
 have HC:=a_ hc0
 have HO:=a_ hok
 have HT:=a_ ht
 have HG:=a_ hG
 have hu:=Tryd.underlying42
 clear hr0 hc0 hok ht hG
 go_enter Tryd.func40,Tryd.ntmps40
 go_wp2_with (first
  | (go_at_call 92;(with_reducible refine (impl_changeOf.calls k a0 a1 a2 a3 a4 ok _ HO.out (HG.out.below (below_box0 w _))).mono ?_);rintro en W1 ⟨v1,rfl,_,hb⟩;have HB1:=a_ ((below_box0 w _).trans (hb.mono (by simp)));clear hb)
  | (go_at_call 93;(with_reducible refine (plant_no A0 c0 l0 _ (Kd.C_below HR.out HB1.out) HC.out HT.out (HG.out.below HB1.out)).mono ?_);rintro en W2 ⟨rfl,hb⟩;have HB2:=a_ (bS_ HB1.out hb);clear hb))
 cases ok
 all_goals go_wp2
 all_goals go_ret
 all_goals exact ⟨_,rfl,Kd.R_nil _ _ _ _ _,HB2.out⟩
theorem opDo_noop (k:Nat) (A0:Option Addr) (c0:Nat) (l0:List S69) (a0 a1 a2 a3:Int) (a4:ByteArray) (w:World) (hr0:Kd.C k69 w A0 l0.length l0) (hc0:l0.length≤c0) (hok:impl_changeOf.f k a0 a1 a2 a3 a4=some false) (ht:treeB l0=true) (hG:Glob w) :
  Calls Tryd.prog 40 #[.slice A0 l0.length c0,.agg #[.int .i64 a0,.int .i64 a1,.int .i64 a2,.int .i64 a3,.string a4]] w (OpDoPost w []):=by
 have HR:=a_ hr0
 have HC:=a_ hc0
 have HO:=a_ hok
 have HT:=a_ ht
 have HG:=a_ hG
 have hu:=Tryd.underlying42
 clear hr0 hc0 hok ht hG
 go_enter Tryd.func40,Tryd.ntmps40
 go_wp2_with (first
  | (go_at_call 92;(with_reducible refine (impl_changeOf.calls k a0 a1 a2 a3 a4 false _ HO.out (HG.out.below (below_box0 w _))).mono ?_);rintro en W1 ⟨v1,rfl,_,hb⟩;have HB1:=a_ ((below_box0 w _).trans (hb.mono (by simp)));clear hb)
  | (go_at_call 93;(with_reducible refine (plant_yes A0 c0 l0 _ (Kd.C_below HR.out HB1.out) HC.out HT.out (HG.out.below HB1.out)).mono ?_);rintro en W2 ⟨Fb,G,A,h,rfl,_,_,_,_,_,_,hb⟩;have HB2:=a_ (bS_ HB1.out hb);clear hb))
 go_ret
 exact ⟨_,rfl,Kd.R_nil _ _ _ _ _,HB2.out⟩
theorem opDo_yes (k:Nat) (A0:Option Addr) (c0:Nat) (l0:List S69) (a0 a1 a2 a3:Int) (a4:ByteArray) (w:World) (hr0:Kd.C k69 w A0 l0.length l0) (hc0:l0.length≤c0) (hok:impl_changeOf.f k a0 a1 a2 a3 a4=some true) (ht:treeB l0=true) (hG:Glob w) :
  Calls Tryd.prog 40 #[.slice A0 l0.length c0,.agg #[.int .i64 a0,.int .i64 a1,.int .i64 a2,.int .i64 a3,.string a4]] w (OpDoPost w ((doF (toFo l0) a0 a1 a2 a3 a4).fl 0)):=by
 have HR:=a_ hr0
 have HC:=a_ hc0
 have HO:=a_ hok
 have HT:=a_ ht
 have HG:=a_ hG
 have HY:=a_ (changeOf_yes hok)
 have hu:=Tryd.underlying42
 clear hr0 hc0 hok ht hG
 go_enter Tryd.func40,Tryd.ntmps40
 go_wp2_with (first
  | (go_at_call 92;(with_reducible refine (impl_changeOf.calls k a0 a1 a2 a3 a4 true _ HO.out (HG.out.below (below_box0 w _))).mono ?_);rintro en W1 ⟨v1,rfl,hv,hb⟩;obtain rfl:=hv rfl;have HB1:=a_ ((below_box0 w _).trans (hb.mono (by simp)));clear hb hv)
  | (go_at_call 93;(with_reducible refine (plant_yes A0 c0 l0 _ (Kd.C_below HR.out HB1.out) HC.out HT.out (HG.out.below HB1.out)).mono ?_);rintro en W2 ⟨Fb,G,A,h,rfl,p1,p2,p3,p4,p5,p6,hb⟩;have HB2:=a_ (bS_ HB1.out hb);have HAT:=a_ (show At W2 W1.heap.size Fb A h G from ⟨p1,p2,p3,p4,p5⟩);have HTO:=a_ (toFo_of HT.out p6);have HS:=a_ hb.size;clear hb p1 p2 p3 p4 p5 p6)
  | (go_at_call 94;(with_reducible refine (apply_any HAT.out HS.out a0 a1 a2 a3 a4 HY.out.1 HY.out.2).mono ?_);rintro en W3 ⟨⟨v3,rfl⟩,⟨A3,h3,t3⟩,hb⟩;have HB3:=a_ (HB2.out.trans (hb.mono HB1.out.size));have HT3:=a_ t3;clear hb t3)
  | (go_at_call 95;(with_reducible refine (rows_any HT3.out.m HT3.out.rep HT3.out.nd HT3.out.tops (fun x hx=>(HT3.out.dom x).2 hx) HT3.out.len).mono ?_);rintro en W4 ⟨v4,rfl,ho,hb⟩;have HB4:=a_ (bS_ HB3.out hb);have HO4:=a_ (Kd.R_lower ho HB3.out.size);clear hb ho))
 go_ret
 rw [HTO.out]
 exact ⟨_,rfl,HO4.out,HB4.out⟩
theorem impl_OpDo.calls (k:Nat) (A0:Option Addr) (c0:Nat) (l0:List S69) (a0 a1 a2 a3:Int) (a4:ByteArray) (r:List S69) (w:World) (hr0:Kd.C k69 w A0 l0.length l0) (hc0:l0.length≤c0) (h:impl_OpDo.f k l0 a0 a1 a2 a3 a4=some r) (hG:Glob w) :
  Calls Tryd.prog 40 #[.slice A0 l0.length c0,.agg #[.int .i64 a0,.int .i64 a1,.int .i64 a2,.int .i64 a3,.string a4]] w fun e w'=>∃ v0_:Value,e=.returned v0_∧Kd.R k69 69 w' w.heap.size (fun _=>True) v0_ r∧Below w.heap.size w w':=by
 unfold impl_OpDo.f at h
 obtain ⟨ok,hok,h⟩:=Option.bind_eq_some_iff.1 h
 cases ht:treeB l0 with
 | false =>
  have hr:r=[]:=by rw [ht] at h;cases ok <;> simpa using h.symm
  subst hr
  exact opDo_notree k A0 c0 l0 a0 a1 a2 a3 a4 ok w hr0 hc0 hok ht hG
 | true =>
  rw [ht] at h
  cases ok with
  | false =>
   have hr:r=[]:=by simpa using h.symm
   subst hr
   exact opDo_noop k A0 c0 l0 a0 a1 a2 a3 a4 w hr0 hc0 hok ht hG
  | true =>
   simp only [if_true,Option.some.injEq] at h
   subst h
   exact opDo_yes k A0 c0 l0 a0 a1 a2 a3 a4 w hr0 hc0 hok ht hG
end Go.Proofs.YtdpklbomhdpimaaDoor.P
namespace Go.Proofs.YtdpklbomhdpimaaDoor.P
open Go.RowKit Go.Proofs.YtdpklbomhdpimaaDoorW.PrintWords Go.Proofs.YtdpklbomhdpimaaDoorW.PrintLast
mutual
def spec_DrawEntryOk.j0:Nat→Bool→List Int→Int→Int→Int→Int→Int→Int→Int→ByteArray→Option (Int×Int×Int×Int×Int×Int×ByteArray)
 | 0,_,_,_,_,_,_,_,_,_,_=>none
 | k+1,x24,x668000,x668001,x679000,x679001,x679002,x679003,x679004,x679005,x679006=>if x24=true then (spec_DrawEntryOk.j1 k x668000 x668001 (wrap64 (Int.tdiv x679003 10)) x679001 x679002 x679003 x679004 x679005 x679006) else (spec_DrawEntryOk.j1 k x668000 x668001 x679000 x679001 x679002 x679003 x679004 x679005 x679006)
def spec_DrawEntryOk.j1:Nat→List Int→Int→Int→Int→Int→Int→Int→Int→ByteArray→Option (Int×Int×Int×Int×Int×Int×ByteArray)
 | 0,_,_,_,_,_,_,_,_,_=>none
 | k+1,x668000,x668001,x679000,x679001,x679002,x679003,x679004,x679005,x679006=>(spec_l6Rd_pick.f k x668000 x668001 12).bind fun bt681=>(if bt681.1=0 then ((spec_l6Rd_pick.f k x668000 bt681.2 6).bind fun bt683=>(some (wrap64 (bt683.1 - 1),x679001,x679002,x679003,x679004,x679005,x679006))) else (if bt681.1=1 then ((some (([0,40,41]:List Int):List Int)).bind fun y685=>((spec_l6Rd_pick.f k x668000 bt681.2 3).bind fun bt688=>(if 0≤bt688.1 then (if bt688.1 < (y685.length:Int) then (some (x679000,rd y685 bt688.1,x679002,x679003,x679004,x679005,x679006)) else (none)) else (none)))) else (some (x679000,x679001,x679002,x679003,x679004,x679005,x679006))))
end
def spec_DrawEntryOk.f (k:Nat) (l0:List Int):Option (Int×Int×Int×Int×Int×Int×ByteArray):=(spec_l6Open.f l0).bind fun bt665=>((spec_l6Rd_pick.f k bt665.1 bt665.2 3).bind fun bt668=>((spec_l6Rd_pick.f k bt665.1 bt668.2 9).bind fun bt670=>((spec_l71Op.f k bt665.1 bt670.2).bind fun bt672=>(if bt672.1=1 then ((spec_l6Rd_pick.f k bt665.1 bt672.2.2.2.2.2 4).bind fun bt679=>(spec_DrawEntryOk.j0 k (decide (bt679.1 > 0)) bt665.1 bt679.2 (wrap64 (1+bt668.1)) (wrap64 (1+bt670.1)) bt672.1 bt672.2.1 bt672.2.2.1 bt672.2.2.2.1 bt672.2.2.2.2.1)) else (spec_DrawEntryOk.j0 k false bt665.1 bt672.2.2.2.2.2 (wrap64 (1+bt668.1)) (wrap64 (1+bt670.1)) bt672.1 bt672.2.1 bt672.2.2.1 bt672.2.2.2.1 bt672.2.2.2.2.1)))))
theorem spec_DrawEntryOk.mono_l:∀ k,(∀ y0 y1 y2 y3 y4 y5 y6 y7 y8 y9,LeO (spec_DrawEntryOk.j0 k y0 y1 y2 y3 y4 y5 y6 y7 y8 y9) (spec_DrawEntryOk.j0 (k+1) y0 y1 y2 y3 y4 y5 y6 y7 y8 y9))∧(∀ y0 y1 y2 y3 y4 y5 y6 y7 y8,LeO (spec_DrawEntryOk.j1 k y0 y1 y2 y3 y4 y5 y6 y7 y8) (spec_DrawEntryOk.j1 (k+1) y0 y1 y2 y3 y4 y5 y6 y7 y8))
 | 0=>⟨fun _ _ _ _ _ _ _ _ _ _ r h=>by simp [spec_DrawEntryOk.j0] at h,fun _ _ _ _ _ _ _ _ _ r h=>by simp [spec_DrawEntryOk.j1] at h⟩
 | k+1=>by
  obtain ⟨ih0,ih1⟩:=spec_DrawEntryOk.mono_l k
  refine ⟨?_,?_⟩
  all_goals intros
  all_goals first|unfold spec_DrawEntryOk.j0|unfold spec_DrawEntryOk.j1
  all_goals repeat' first
  | (with_reducible exact ih0 _ _ _ _ _ _ _ _ _ _)
  | (with_reducible exact ih1 _ _ _ _ _ _ _ _ _)
  | (with_reducible exact spec_l6Rd_pick.mono _ _ _ _)
  | (with_reducible exact spec_l71Op.mono _ _ _)
  | (with_reducible exact LeO.refl _)
  | (with_reducible exact LeO.none _)
  | (with_reducible refine LeO.ite ?_ ?_)
  | (with_reducible refine LeO.bind ?_ (fun _=>?_))
theorem spec_DrawEntryOk.mono:∀ a0 k,LeO (spec_DrawEntryOk.f k a0) (spec_DrawEntryOk.f (k+1) a0):=by
 intro a0 k
 obtain ⟨ih0,ih1⟩:=spec_DrawEntryOk.mono_l k
 unfold spec_DrawEntryOk.f
 repeat' first
   | (with_reducible exact ih0 _ _ _ _ _ _ _ _ _ _)
   | (with_reducible exact ih1 _ _ _ _ _ _ _ _ _)
   | (with_reducible exact spec_l6Rd_pick.mono _ _ _ _)
   | (with_reducible exact spec_l71Op.mono _ _ _)
   | (with_reducible exact LeO.refl _)
   | (with_reducible exact LeO.none _)
   | (with_reducible refine LeO.ite ?_ ?_)
   | (with_reducible refine LeO.bind ?_ (fun _=>?_))
theorem spec_DrawEntryOk.calls (k:Nat) (A0:Option Addr) (c0:Nat) (l0:List Int) (r1:Int) (r2:Int) (r3:Int) (r4:Int) (r5:Int) (r6:Int) (r7:ByteArray) (w:World) (hr0:Kd.C (Kd.int .u8) w A0 l0.length l0) (hc0:l0.length≤c0) (h:spec_DrawEntryOk.f k l0=some (r1,r2,r3,r4,r5,r6,r7)) :
  Calls Tryd.prog 89 #[.slice A0 l0.length c0] w fun e w'=>e=.returned (.agg #[.int .i64 r1,.int .i64 r2,.int .i64 r3,.int .i64 r4,.int .i64 r5,.int .i64 r6,.string r7])∧Below w.heap.size w w':=by
 have hu44:=Tryd.underlying44
 have HR0:=a_ hr0
 have HC0:=a_ hc0
 clear hr0 hc0
 have HB:=a_ (Below.refl w.heap.size w)
 unfold spec_DrawEntryOk.f at h
 have H:=h
 clear h
 replace H:=bs_ H
 obtain ⟨⟨t665,t666⟩,A20,H⟩:=H
 try dsimp only at H
 have A2:=a_ A20
 clear A20
 replace H:=bs_ H
 obtain ⟨⟨t668,t669⟩,A30,H⟩:=H
 try dsimp only at H
 have A3:=a_ A30
 clear A30
 replace H:=bs_ H
 obtain ⟨⟨t670,t671⟩,A40,H⟩:=H
 try dsimp only at H
 have A4:=a_ A40
 clear A40
 replace H:=bs_ H
 obtain ⟨⟨t672,t673,t674,t675,t676,t677⟩,A50,H⟩:=H
 try dsimp only at H
 have A5:=a_ A50
 clear A50
 have HC6:=a_ H
 clear H
 go_enter Tryd.func89,Tryd.ntmps89
 go_upto_region 3 with (first|((with_reducible refine gD_ (N:=2) rfl ?_);refine bx_ 2 (#[.int .i64 0,.int .i64 0,.int .i64 0,.int .i64 0,.int .i64 0,.int .i64 0,.string (⟨#[]⟩:ByteArray)]) 44 ?_;intro gb664 hg w7 hbox hb;have n0_:=a_ (bS_ (bel_) hb);have n1_:=a_ (hbox);have n2_:=a_ ((by rw [hg];exact (below_size (bel_)):w.heap.size≤gb664));have n3_:=a_ ((by rw [hg];exact (below_size (bel_)):w.heap.size≤gb664));clear HB;have HB:=n0_;have BK664:=n1_;have GW664:=n2_;have GE664:=n3_;clear n0_ n1_ n2_ n3_;clear hb hbox hg)|((with_reducible refine gC_ (f:=72) rfl ?_);refine gl_ 6 Tryd.func72 #[.slice A0 l0.length c0] ?_;(with_reducible refine (spec_l6Open.calls _ _ l0 t665 t666 w _ ?side1 ?side2 ?side3 A2.out).mono ?_);(case side1=>exact bel_);(case side2=>exact HR0.out);(case side3=>exact HC0.out);rintro e w8 ⟨g667,rfl,hi,hb,hb2⟩;refine ⟨_,rfl,?_⟩;replace HB:=a_ (hb);have HI667:=a_ (hi);have NB667_664:=a_ (IsS145.ne_blk hi (bb_ BK664.out hb2) (by decide));have NB664_667:=a_ (Ne.symm (IsS145.ne_blk hi (bb_ BK664.out hb2) (by decide)));replace BK664:=a_ (bb_ BK664.out hb2);(try clear hb hb2 hi))|((with_reducible refine gC_ (f:=74) rfl ?_);refine gl_ 8 Tryd.func74 #[.pointer (some ⟨g667,0,none⟩),.int .i64 3] ?_;(with_reducible refine (spec_l6Rd_pick.calls k g667 t665 t666 3 t668 t669 w _ ?side1 ?side2 A3.out).mono ?_);(case side1=>exact is_HI667);(case side2=>exact bel_);rintro e w9 ⟨rfl,hi,hb,hk⟩;refine ⟨_,rfl,?_⟩;replace BK664:=a_ (kb_ hk BK664.out NB664_667.out);replace HB:=a_ (hb);replace HI667:=a_ (hi);(try clear hb hk hi))|((with_reducible refine gC_ (f:=74) rfl ?_);refine gl_ 11 Tryd.func74 #[.pointer (some ⟨g667,0,none⟩),.int .i64 9] ?_;(with_reducible refine (spec_l6Rd_pick.calls k g667 t665 t669 9 t670 t671 w _ ?side1 ?side2 A4.out).mono ?_);(case side1=>exact is_HI667);(case side2=>exact bel_);rintro e w10 ⟨rfl,hi,hb,hk⟩;refine ⟨_,rfl,?_⟩;replace BK664:=a_ (kb_ hk BK664.out NB664_667.out);replace HB:=a_ (hb);replace HI667:=a_ (hi);(try clear hb hk hi))|((with_reducible refine gC_ (f:=96) rfl ?_);refine gl_ 14 Tryd.func96 #[.pointer (some ⟨g667,0,none⟩)] ?_;(with_reducible refine (spec_l71Op.calls k g667 t665 t671 t672 t673 t674 t675 t676 t677 w _ ?side1 ?side2 A5.out).mono ?_);(case side1=>exact is_HI667);(case side2=>exact bel_);rintro e w11 ⟨rfl,hi,hb,hk⟩;refine ⟨_,rfl,?_⟩;replace BK664:=a_ (kb_ hk BK664.out NB664_667.out);replace HB:=a_ (hb);replace HI667:=a_ (hi);(try clear hb hk hi))|((with_reducible refine gD_ (N:=4) rfl ?_);refine bx_ 4 (#[.int .i64 0,.int .i64 0,.int .i64 0,.int .i64 0,.int .i64 0,.int .i64 0,.string (⟨#[]⟩:ByteArray)]) 44 ?_;intro gb678 hg w12 hbox hb;have n0_:=a_ (bb_ BK664.out hb);have n1_:=a_ (IsS145.below (is_HI667) hb);have n2_:=a_ (bS_ (bel_) hb);have n3_:=a_ (hbox);have n4_:=a_ ((by rw [hg];exact (below_size (bel_)):w.heap.size≤gb678));have n5_:=a_ ((by rw [hg];exact (below_size (bel_)):w.heap.size≤gb678));have n6_:=a_ ((by rw [hg];exact Nat.ne_of_lt (blk_lt (g:=gb664) (o:=.cells #[.int .i64 0,.int .i64 0,.int .i64 0,.int .i64 0,.int .i64 0,.int .i64 0,.string (⟨#[]⟩:ByteArray)] 44 (0,0)) (bp_ BK664.out)):gb664≠gb678));have n7_:=a_ ((by rw [hg];exact Nat.ne_of_gt (blk_lt (g:=gb664) (o:=.cells #[.int .i64 0,.int .i64 0,.int .i64 0,.int .i64 0,.int .i64 0,.int .i64 0,.string (⟨#[]⟩:ByteArray)] 44 (0,0)) (bp_ BK664.out)):gb678≠gb664));have n8_:=a_ ((by rw [hg];exact Nat.ne_of_lt (IsS145.lt (show IsS145 w _ g667 t665 t677 from is_HI667)):g667≠gb678));have n9_:=a_ ((by rw [hg];exact Nat.ne_of_gt (IsS145.lt (show IsS145 w _ g667 t665 t677 from is_HI667)):gb678≠g667));clear BK664;clear HI667;clear HB;have BK664:=n0_;have HI667:=n1_;have HB:=n2_;have BK678:=n3_;have GW678:=n4_;have GE678:=n5_;have NB664_678:=n6_;have NB678_664:=n7_;have NB667_678:=n8_;have NB678_667:=n9_;clear n0_ n1_ n2_ n3_ n4_ n5_ n6_ n7_ n8_ n9_;clear hb hbox hg;have hnb13:=NB678_664.out;have hnc13:=NB664_678.out;have hnb14:=NB678_667.out;have hnc14:=NB667_678.out;obtain ⟨Z15_0,Z15_1,Z15_2,Z15_3,Z15_4,Z15_5,Z15_6,Y15_0,Y15_1,Y15_2,Y15_3,Y15_4,Y15_5,Y15_6⟩:=op7_ BK678.out))
 (try simp only [Act.put,List.setIfInBounds_toArray,List.set_cons_zero,List.set_cons_succ])
 go_cut [24] (fun v24 wc=>∃ (kq:Nat) (x24_5:Bool) (x668001_5:Int),v24=.bool x24_5∧Aside0 (spec_DrawEntryOk.j0 kq x24_5 t665 x668001_5 (wrap64 (1+t668)) (wrap64 (1+t670)) t672 t673 t674 t675 t676=some (r1,r2,r3,r4,r5,r6,r7))∧Aside0 (kq≤k)∧Aside0 (wc.heap[gb664]?=some (.cells #[.int .i64 0,.int .i64 0,.int .i64 0,.int .i64 0,.int .i64 0,.int .i64 0,.string (⟨#[]⟩:ByteArray)] 44 (0,0)))∧Aside0 (wc.heap[gb678]?=some (.cells #[.int .i64 (wrap64 (1+t668)),.int .i64 (wrap64 (1+t670)),.int .i64 t672,.int .i64 t673,.int .i64 t674,.int .i64 t675,.string t676] 44 (0,0)))∧Aside0 (IsS145 w wc g667 t665 x668001_5)∧Aside0 (Below w.heap.size w wc))
 case first =>
  have H:=HC6.out
  clear HC6
  by_cases c16:t672=1
  ·rw [if_pos c16] at H
   have c16b0:(t672==1)=true:=beq_iff_eq.mpr c16
   have c16b1:(t672 != 1)=false:=be_ c16
   clear c16
   (first|rw [c16b0]|(simp only [i64_w,i32_w];rw [c16b0])|skip)
   replace H:=bs_ H
   obtain ⟨⟨t679,t680⟩,A170,H⟩:=H
   try dsimp only at H
   have A17:=a_ A170
   clear A170
   have H':=a_ H
   clear H
   have hnb18:=NB678_664.out
   have hnc18:=NB664_678.out
   have hnb19:=NB678_667.out
   have hnc19:=NB667_678.out
   obtain ⟨Z20_0,Z20_1,Z20_2,Z20_3,Z20_4,Z20_5,Z20_6,Y20_0,Y20_1,Y20_2,Y20_3,Y20_4,Y20_5,Y20_6⟩:=op7_ BK678.out
   go_wp2_with (first|(go_at_call 74;(with_reducible refine (spec_l6Rd_pick.calls k g667 t665 t677 4 t679 t680 w _ ?side1 ?side2 A17.out).mono ?_);(case side1=>exact is_HI667);(case side2=>exact bel_);rintro e w21 ⟨rfl,hi,hb,hk⟩;have n0_:=a_ (KeepBut.blk hk (g':=gb664) (o:=.cells #[.int .i64 0,.int .i64 0,.int .i64 0,.int .i64 0,.int .i64 0,.int .i64 0,.string (⟨#[]⟩:ByteArray)] 44 (0,0)) (by (with_reducible repeat (first|refine bN_ ?_ _|refine bD_ ?_|refine bA_ ?_ _));refine blk_far ?_ NB664_678.out _;(with_reducible repeat (first|refine bN_ ?_ _|refine bD_ ?_|refine bA_ ?_ _));refine blk_far ?_ NB664_678.out _;(with_reducible repeat (first|refine bN_ ?_ _|refine bD_ ?_|refine bA_ ?_ _));refine blk_far ?_ NB664_678.out _;(with_reducible repeat (first|refine bN_ ?_ _|refine bD_ ?_|refine bA_ ?_ _));refine blk_far ?_ NB664_678.out _;(with_reducible repeat (first|refine bN_ ?_ _|refine bD_ ?_|refine bA_ ?_ _));refine blk_far ?_ NB664_678.out _;(with_reducible repeat (first|refine bN_ ?_ _|refine bD_ ?_|refine bA_ ?_ _));refine blk_far ?_ NB664_678.out _;(with_reducible repeat (first|refine bN_ ?_ _|refine bD_ ?_|refine bA_ ?_ _));refine blk_far ?_ NB664_678.out _;(with_reducible repeat (first|refine bN_ ?_ _|refine bD_ ?_|refine bA_ ?_ _));exact BK664.out) NB664_667.out (by simp));have n1_:=a_ (KeepBut.blk hk (g':=gb678) (o:=.cells #[.int .i64 (wrap64 (1+t668)),.int .i64 (wrap64 (1+t670)),.int .i64 t672,.int .i64 t673,.int .i64 t674,.int .i64 t675,.string t676] 44 (0,0)) (by (with_reducible repeat (first|refine bN_ ?_ _|refine bD_ ?_|refine bA_ ?_ _));exact bk7_ (bp_ BK678.out)) NB678_667.out (by simp));have n2_:=a_ (hb);have n3_:=a_ (hi);clear BK664;clear BK678;clear HB;clear HI667;have BK664:=n0_;have BK678:=n1_;have HB:=n2_;have HI667:=n3_;clear n0_ n1_ n2_ n3_;(try clear hb hk hi)))
   go_meet
   case rel=>exact ⟨_,(decide (t679 > 0)),(t680),(si_),H',⟨by first|omega|exact Nat.le_refl _⟩,⟨by (with_reducible repeat (first|refine bN_ ?_ _|refine bD_ ?_|refine bA_ ?_ _));exact BK664.out⟩,⟨by (with_reducible repeat (first|refine bN_ ?_ _|refine bD_ ?_|refine bA_ ?_ _));exact BK678.out⟩,⟨is_HI667⟩,⟨bel_⟩⟩
  ·rw [if_neg c16] at H
   have c16b0:(t672==1)=false:=bn_ c16
   have c16b1:(t672 != 1)=true:=bne_iff_ne.mpr c16
   (first|rw [c16b0]|(simp only [i64_w,i32_w];rw [c16b0])|skip)
   have H':=a_ H
   clear H
   have hnb22:=NB678_664.out
   have hnc22:=NB664_678.out
   have hnb23:=NB678_667.out
   have hnc23:=NB667_678.out
   obtain ⟨Z24_0,Z24_1,Z24_2,Z24_3,Z24_4,Z24_5,Z24_6,Y24_0,Y24_1,Y24_2,Y24_3,Y24_4,Y24_5,Y24_6⟩:=op7_ BK678.out
   go_wp2
   go_meet
   case rel=>exact ⟨_,(false),(t677),(si_),H',⟨by first|omega|exact Nat.le_refl _⟩,⟨by (with_reducible repeat (first|refine bN_ ?_ _|refine bD_ ?_|refine bA_ ?_ _));refine blk_far ?_ NB664_678.out _;(with_reducible repeat (first|refine bN_ ?_ _|refine bD_ ?_|refine bA_ ?_ _));refine blk_far ?_ NB664_678.out _;(with_reducible repeat (first|refine bN_ ?_ _|refine bD_ ?_|refine bA_ ?_ _));refine blk_far ?_ NB664_678.out _;(with_reducible repeat (first|refine bN_ ?_ _|refine bD_ ?_|refine bA_ ?_ _));refine blk_far ?_ NB664_678.out _;(with_reducible repeat (first|refine bN_ ?_ _|refine bD_ ?_|refine bA_ ?_ _));refine blk_far ?_ NB664_678.out _;(with_reducible repeat (first|refine bN_ ?_ _|refine bD_ ?_|refine bA_ ?_ _));refine blk_far ?_ NB664_678.out _;(with_reducible repeat (first|refine bN_ ?_ _|refine bD_ ?_|refine bA_ ?_ _));refine blk_far ?_ NB664_678.out _;(with_reducible repeat (first|refine bN_ ?_ _|refine bD_ ?_|refine bA_ ?_ _));exact BK664.out⟩,⟨by (with_reducible repeat (first|refine bN_ ?_ _|refine bD_ ?_|refine bA_ ?_ _));exact bk7_ (bp_ BK678.out)⟩,⟨is_HI667⟩,⟨bel_⟩⟩
 case rest =>
  clear HC6
  try clear c1
  try clear c2
  try clear p2
  try clear p6
  try clear c7
  try clear c8
  try clear c9
  try clear c13
  try clear c14
  try clear c16
  try clear c16b0
  try clear c16b1
  try clear c18
  try clear c19
  try clear c22
  try clear c23
  try clear Z15_0 Z15_1 Z15_2 Z15_3 Z15_4 Z15_5 Z15_6 Y15_0 Y15_1 Y15_2 Y15_3 Y15_4 Y15_5 Y15_6
  try clear Z20_0 Z20_1 Z20_2 Z20_3 Z20_4 Z20_5 Z20_6 Y20_0 Y20_1 Y20_2 Y20_3 Y20_4 Y20_5 Y20_6
  try clear Z24_0 Z24_1 Z24_2 Z24_3 Z24_4 Z24_5 Z24_6 Y24_0 Y24_1 Y24_2 Y24_3 Y24_4 Y24_5 Y24_6
  obtain ⟨kq,x24_5,x668001_5,rfl,HA,HJ5,BK664,BK678,HI667,HB⟩:=hcut
  cases kq with
  | zero=>exact absurd HA.out (by simp [spec_DrawEntryOk.j0])
  | succ kj5 =>
   have H:=HA.out
   clear HA
   simp only [spec_DrawEntryOk.j0] at H
   have HC25:=a_ H
   clear H
   go_upto_if 24 with (fail)
   go_cut [] (fun wc=>∃ (kq:Nat) (x679000_24:Int),Aside0 (spec_DrawEntryOk.j1 kq t665 x668001_5 x679000_24 (wrap64 (1+t670)) t672 t673 t674 t675 t676=some (r1,r2,r3,r4,r5,r6,r7))∧Aside0 (kq≤kj5)∧Aside0 (wc.heap[gb664]?=some (.cells #[.int .i64 0,.int .i64 0,.int .i64 0,.int .i64 0,.int .i64 0,.int .i64 0,.string (⟨#[]⟩:ByteArray)] 44 (0,0)))∧Aside0 (wc.heap[gb678]?=some (.cells #[.int .i64 x679000_24,.int .i64 (wrap64 (1+t670)),.int .i64 t672,.int .i64 t673,.int .i64 t674,.int .i64 t675,.string t676] 44 (0,0)))∧Aside0 (IsS145 w wc g667 t665 x668001_5)∧Aside0 (Below w.heap.size w wc))
   case first =>
    have H:=HC25.out
    clear HC25
    by_cases c26:x24_5=true
    ·subst c26
     have H1:(spec_DrawEntryOk.j1 kj5 t665 x668001_5 (wrap64 (Int.tdiv t673 10)) (wrap64 (1+t670)) t672 t673 t674 t675 t676)=some (r1,r2,r3,r4,r5,r6,r7):=by rw [if_pos rfl] at H;exact H
     clear H
     have H:=H1
     clear H1
     have H':=a_ H
     clear H
     have hnb27:=NB678_664.out
     have hnc27:=NB664_678.out
     have hnb28:=NB678_667.out
     have hnc28:=NB667_678.out
     obtain ⟨Z29_0,Z29_1,Z29_2,Z29_3,Z29_4,Z29_5,Z29_6,Y29_0,Y29_1,Y29_2,Y29_3,Y29_4,Y29_5,Y29_6⟩:=op7_ BK678.out
     go_wp2
     go_meet
     case rel=>exact ⟨_,(wrap64 (Int.tdiv t673 10)),H',⟨by have:=HJ5.out;first|omega|exact Nat.le_refl _⟩,⟨by (with_reducible repeat (first|refine bN_ ?_ _|refine bD_ ?_|refine bA_ ?_ _));refine blk_far ?_ NB664_678.out _;(with_reducible repeat (first|refine bN_ ?_ _|refine bD_ ?_|refine bA_ ?_ _));exact BK664.out⟩,⟨by (with_reducible repeat (first|refine bN_ ?_ _|refine bD_ ?_|refine bA_ ?_ _));refine blk_put (cs:=#[.int .i64 (wrap64 (1+t668)),.int .i64 (wrap64 (1+t670)),.int .i64 t672,.int .i64 t673,.int .i64 t674,.int .i64 t675,.string t676]) ?_ 0 _ rfl;(with_reducible repeat (first|refine bN_ ?_ _|refine bD_ ?_|refine bA_ ?_ _));exact BK678.out⟩,⟨is_HI667⟩,⟨bel_⟩⟩
    ·replace c26:=Bool.eq_false_iff.mpr c26
     subst c26
     have H1:(spec_DrawEntryOk.j1 kj5 t665 x668001_5 (wrap64 (1+t668)) (wrap64 (1+t670)) t672 t673 t674 t675 t676)=some (r1,r2,r3,r4,r5,r6,r7):=by rw [if_neg (show ¬ (false=true) by decide)] at H;exact H
     clear H
     have H:=H1
     clear H1
     have H':=a_ H
     clear H
     go_wp2
     go_meet
     case rel=>exact ⟨_,((wrap64 (1+t668))),H',⟨by have:=HJ5.out;first|omega|exact Nat.le_refl _⟩,⟨by (with_reducible repeat (first|refine bN_ ?_ _|refine bD_ ?_|refine bA_ ?_ _));exact BK664.out⟩,⟨by (with_reducible repeat (first|refine bN_ ?_ _|refine bD_ ?_|refine bA_ ?_ _));exact BK678.out⟩,⟨is_HI667⟩,⟨bel_⟩⟩
   case rest =>
    clear HC25
    try clear c1
    try clear c2
    try clear p2
    try clear p6
    try clear c7
    try clear c8
    try clear c9
    try clear c13
    try clear c14
    try clear c16
    try clear c16b0
    try clear c16b1
    try clear c18
    try clear c19
    try clear c22
    try clear c23
    try clear c26
    try clear c27
    try clear c28
    try clear p2
    try clear p6
    try clear Z15_0 Z15_1 Z15_2 Z15_3 Z15_4 Z15_5 Z15_6 Y15_0 Y15_1 Y15_2 Y15_3 Y15_4 Y15_5 Y15_6
    try clear Z20_0 Z20_1 Z20_2 Z20_3 Z20_4 Z20_5 Z20_6 Y20_0 Y20_1 Y20_2 Y20_3 Y20_4 Y20_5 Y20_6
    try clear Z24_0 Z24_1 Z24_2 Z24_3 Z24_4 Z24_5 Z24_6 Y24_0 Y24_1 Y24_2 Y24_3 Y24_4 Y24_5 Y24_6
    try clear Z29_0 Z29_1 Z29_2 Z29_3 Z29_4 Z29_5 Z29_6 Y29_0 Y29_1 Y29_2 Y29_3 Y29_4 Y29_5 Y29_6
    obtain ⟨kq,x679000_24,HA,HJ24,BK664,BK678,HI667,HB⟩:=hcut
    cases kq with
    | zero=>exact absurd HA.out (by simp [spec_DrawEntryOk.j1])
    | succ kj24 =>
     have H:=HA.out
     clear HA
     simp only [spec_DrawEntryOk.j1] at H
     replace H:=bs_ H
     obtain ⟨⟨t681,t682⟩,A300,H⟩:=H
     try dsimp only at H
     have A30:=a_ A300
     clear A300
     by_cases c31:t681=0
     ·rw [if_pos c31] at H
      have c31b0:(t681==0)=true:=beq_iff_eq.mpr c31
      have c31b1:(t681 != 0)=false:=be_ c31
      clear c31
      replace H:=bs_ H
      obtain ⟨⟨t683,t684⟩,A320,H⟩:=H
      try dsimp only at H
      have A32:=a_ A320
      clear A320
      simp only [Option.some.injEq,Prod.mk.injEq] at H
      obtain ⟨rfl,rfl,rfl,rfl,rfl,rfl,rfl⟩:=H
      go_wp2_with (first|((with_reducible refine gC_ (f:=74) rfl ?_);refine gl_ 31 Tryd.func74 #[.pointer (some ⟨g667,0,none⟩),.int .i64 12] ?_;(with_reducible refine (spec_l6Rd_pick.calls kj24 g667 t665 x668001_5 12 t681 t682 w _ ?side1 ?side2 A30.out).mono ?_);(case side1=>exact is_HI667);(case side2=>exact bel_);rintro e w33 ⟨rfl,hi,hb,hk⟩;refine ⟨_,rfl,?_⟩;replace BK664:=a_ (kb_ hk BK664.out NB664_667.out);replace BK678:=a_ (kb_ hk BK678.out NB678_667.out);replace HB:=a_ (hb);replace HI667:=a_ (hi);(try clear hb hk hi))|((with_reducible refine gC_ (f:=74) rfl ?_);refine gl_ 35 Tryd.func74 #[.pointer (some ⟨g667,0,none⟩),.int .i64 6] ?_;(with_reducible refine (spec_l6Rd_pick.calls kj24 g667 t665 t682 6 t683 t684 w _ ?side1 ?side2 A32.out).mono ?_);(case side1=>exact is_HI667);(case side2=>exact bel_);rintro e w34 ⟨rfl,hi,hb,hk⟩;refine ⟨_,rfl,?_⟩;replace BK664:=a_ (kb_ hk BK664.out NB664_667.out);replace BK678:=a_ (kb_ hk BK678.out NB678_667.out);replace HB:=a_ (hb);replace HI667:=a_ (hi);(try clear hb hk hi);have hnb35:=NB678_664.out;have hnc35:=NB664_678.out;have hnb36:=NB678_667.out;have hnc36:=NB667_678.out;obtain ⟨Z37_0,Z37_1,Z37_2,Z37_3,Z37_4,Z37_5,Z37_6,Y37_0,Y37_1,Y37_2,Y37_3,Y37_4,Y37_5,Y37_6⟩:=op7_ BK678.out;have hnb38:=NB664_667.out;have hnc38:=NB667_664.out;obtain ⟨Z39_0,Z39_1,Z39_2,Z39_3,Z39_4,Z39_5,Z39_6,Y39_0,Y39_1,Y39_2,Y39_3,Y39_4,Y39_5,Y39_6⟩:=op7_ BK664.out))
      refine bodyPost_ret (results_cell_row rfl _ _ gb664 44 #[.int .i64 (wrap64 (t683 - 1)),.int .i64 (wrap64 (1+t670)),.int .i64 t672,.int .i64 t673,.int .i64 t674,.int .i64 t675,.string t676] (0,0) _ rfl (by (with_reducible repeat (first|refine bN_ ?_ _|refine bD_ ?_|refine bA_ ?_ _));refine blk_put (cs:=#[.int .i64 (wrap64 (t683 - 1)),.int .i64 (wrap64 (1+t670)),.int .i64 t672,.int .i64 t673,.int .i64 t674,.int .i64 t675,.string (⟨#[]⟩:ByteArray)]) ?_ 6 _ rfl;(with_reducible repeat (first|refine bN_ ?_ _|refine bD_ ?_|refine bA_ ?_ _));refine blk_put (cs:=#[.int .i64 (wrap64 (t683 - 1)),.int .i64 (wrap64 (1+t670)),.int .i64 t672,.int .i64 t673,.int .i64 t674,.int .i64 0,.string (⟨#[]⟩:ByteArray)]) ?_ 5 _ rfl;(with_reducible repeat (first|refine bN_ ?_ _|refine bD_ ?_|refine bA_ ?_ _));refine blk_put (cs:=#[.int .i64 (wrap64 (t683 - 1)),.int .i64 (wrap64 (1+t670)),.int .i64 t672,.int .i64 t673,.int .i64 0,.int .i64 0,.string (⟨#[]⟩:ByteArray)]) ?_ 4 _ rfl;(with_reducible repeat (first|refine bN_ ?_ _|refine bD_ ?_|refine bA_ ?_ _));refine blk_put (cs:=#[.int .i64 (wrap64 (t683 - 1)),.int .i64 (wrap64 (1+t670)),.int .i64 t672,.int .i64 0,.int .i64 0,.int .i64 0,.string (⟨#[]⟩:ByteArray)]) ?_ 3 _ rfl;(with_reducible repeat (first|refine bN_ ?_ _|refine bD_ ?_|refine bA_ ?_ _));refine blk_put (cs:=#[.int .i64 (wrap64 (t683 - 1)),.int .i64 (wrap64 (1+t670)),.int .i64 0,.int .i64 0,.int .i64 0,.int .i64 0,.string (⟨#[]⟩:ByteArray)]) ?_ 2 _ rfl;(with_reducible repeat (first|refine bN_ ?_ _|refine bD_ ?_|refine bA_ ?_ _));refine blk_put (cs:=#[.int .i64 (wrap64 (t683 - 1)),.int .i64 0,.int .i64 0,.int .i64 0,.int .i64 0,.int .i64 0,.string (⟨#[]⟩:ByteArray)]) ?_ 1 _ rfl;(with_reducible repeat (first|refine bN_ ?_ _|refine bD_ ?_|refine bA_ ?_ _));refine blk_put (cs:=#[.int .i64 0,.int .i64 0,.int .i64 0,.int .i64 0,.int .i64 0,.int .i64 0,.string (⟨#[]⟩:ByteArray)]) ?_ 0 _ rfl;(with_reducible repeat (first|refine bN_ ?_ _|refine bD_ ?_|refine bA_ ?_ _));refine blk_far ?_ NB664_678.out _;(with_reducible repeat (first|refine bN_ ?_ _|refine bD_ ?_|refine bA_ ?_ _));exact BK664.out) Tryd.underlying44 rfl (by kernel_rfl)) rfl ?_
      exact ⟨fi_,bel_⟩
     ·rw [if_neg c31] at H
      have c31b0:(t681==0)=false:=bn_ c31
      have c31b1:(t681 != 0)=true:=bne_iff_ne.mpr c31
      by_cases c40:t681=1
      ·rw [if_pos c40] at H
       have c40b0:(t681==1)=true:=beq_iff_eq.mpr c40
       have c40b1:(t681 != 1)=false:=be_ c40
       clear c40
       obtain ⟨y685,hy685⟩:∃ y_:List Int,y_=(([0,40,41]:List Int)):=⟨_,rfl⟩
       replace H:((spec_l6Rd_pick.f kj24 t665 t682 3).bind fun bt688=>(if 0≤bt688.1 then (if bt688.1 < (y685.length:Int) then (some (x679000_24,rd y685 bt688.1,t672,t673,t674,t675,t676)) else (none)) else (none)))=some (r1,r2,r3,r4,r5,r6,r7):=by first|(rw [hy685];with_reducible exact H)|(have H2_:=(Option.bind_some _ _).symm.trans H;rw [hy685];with_reducible exact H2_)|(have H2_:=(Option.bind_some _ _).symm.trans H;with_reducible exact H2_)|with_reducible exact H|(rw [hy685];exact H)|exact H
       have Ny685:=a_ hy685
       clear hy685
       replace H:=bs_ H
       obtain ⟨⟨t688,t689⟩,A410,H⟩:=H
       try dsimp only at H
       have A41:=a_ A410
       clear A410
       by_cases c42:0≤t688
       ·rw [if_pos c42] at H
        have c42b0:decide (0≤t688)=true:=dt_ c42
        clear c42
        by_cases c43:t688 < (y685.length:Int)
        ·rw [if_pos c43] at H
         have c43b0:decide (t688 < (y685.length:Int))=true:=dt_ c43
         clear c43
         simp only [Option.some.injEq,Prod.mk.injEq] at H
         obtain ⟨rfl,rfl,rfl,rfl,rfl,rfl,rfl⟩:=H
         go_wp2_with (first|((with_reducible refine gC_ (f:=74) rfl ?_);refine gl_ 31 Tryd.func74 #[.pointer (some ⟨g667,0,none⟩),.int .i64 12] ?_;(with_reducible refine (spec_l6Rd_pick.calls kj24 g667 t665 x668001_5 12 t681 t682 w _ ?side1 ?side2 A30.out).mono ?_);(case side1=>exact is_HI667);(case side2=>exact bel_);rintro e w44 ⟨rfl,hi,hb,hk⟩;refine ⟨_,rfl,?_⟩;replace BK664:=a_ (kb_ hk BK664.out NB664_667.out);replace BK678:=a_ (kb_ hk BK678.out NB678_667.out);replace HB:=a_ (hb);replace HI667:=a_ (hi);(try clear hb hk hi))|((with_reducible refine gD_ (N:=40) rfl ?_);refine Kd.R_lit (Kd.int .i64) _ 3 ?hg (N:=40) ?hd (xs:=([0,40,41]:List Int)) (inner:=[.int .i64 0,.int .i64 40,.int .i64 41]) (ok:=fun _=>True) (okp:=fun _=>True) ?hr ?hp (fun _ hk=>hk) trivial (Below.refl _ _) (Nat.le_refl _) (by simp) ?_;(case hd=>rfl);(case hg=>rfl);(case hr=>first|(go_simp;done)|(go_simp;rfl));(case hp=>exact (Reps.one (show Kd.M (Kd.int .i64) _ _ _ 0 [.int .i64 0] from rfl) (Reps.one (show Kd.M (Kd.int .i64) _ _ _ 40 [.int .i64 40] from rfl) (Reps.one (show Kd.M (Kd.int .i64) _ _ _ 41 [.int .i64 41] from rfl) (Reps.none _ _)))));intro v686 w45 ho46 hb hg_ hnew_;clear hg_ hnew_;(first|rw [←Ny685.out] at ho46|(simp only [Int.reduceToNat] at ho46;rw [←Ny685.out] at ho46));have HO687:=a_ (Kd.R_lower ho46 (below_size (bel_)));replace HB:=a_ (bS_ (bel_) hb);replace BK664:=a_ (bb_ BK664.out hb);replace BK678:=a_ (bb_ BK678.out hb);replace HI667:=a_ (IsS145.below (is_HI667) hb);clear hb ho46)|((with_reducible refine gC_ (f:=74) rfl ?_);refine gl_ 42 Tryd.func74 #[.pointer (some ⟨g667,0,none⟩),.int .i64 3] ?_;(with_reducible refine (spec_l6Rd_pick.calls kj24 g667 t665 t682 3 t688 t689 w _ ?side1 ?side2 A41.out).mono ?_);(case side1=>exact is_HI667);(case side2=>exact bel_);rintro e w47 ⟨rfl,hi,hb,hk⟩;refine ⟨_,rfl,?_⟩;replace BK664:=a_ (kb_ hk BK664.out NB664_667.out);replace BK678:=a_ (kb_ hk BK678.out NB678_667.out);replace HO687:=a_ (Kd.R_mono (Kd.R_keep (IsS145.apart (show IsS145 w _ g667 t665 t682 from is_HI667) (rp_ HO687.out) (by decide)) hk (fun _ h=>h.2)) (fun _ h=>h.1));replace HB:=a_ (hb);replace HI667:=a_ (hi);(try clear hb hk hi);obtain ⟨Ao48,co48,eo48⟩:=Kd.R_slice HO687.out;subst eo48;have p690:0≤(t688:Int):=od_;have q690:t688 < (y685.length:Int):=od_;obtain ⟨ad690,e690,hx690_0⟩:=Kd.at_int (Kd.R_reads' HO687.out).2.2 t688 p690 q690;cases e690;replace p690:=eq_true p690;replace q690:=eq_true q690;have hnb49:=NB678_664.out;have hnc49:=NB664_678.out;have hnb50:=NB678_667.out;have hnc50:=NB667_678.out;obtain ⟨Z51_0,Z51_1,Z51_2,Z51_3,Z51_4,Z51_5,Z51_6,Y51_0,Y51_1,Y51_2,Y51_3,Y51_4,Y51_5,Y51_6⟩:=op7_ BK678.out;have hnb52:=NB664_667.out;have hnc52:=NB667_664.out;obtain ⟨Z53_0,Z53_1,Z53_2,Z53_3,Z53_4,Z53_5,Z53_6,Y53_0,Y53_1,Y53_2,Y53_3,Y53_4,Y53_5,Y53_6⟩:=op7_ BK664.out))
         refine bodyPost_ret (results_cell_row rfl _ _ gb664 44 #[.int .i64 x679000_24,.int .i64 (rd y685 t688),.int .i64 t672,.int .i64 t673,.int .i64 t674,.int .i64 t675,.string t676] (0,0) _ rfl (by (with_reducible repeat (first|refine bN_ ?_ _|refine bD_ ?_|refine bA_ ?_ _));refine blk_put (cs:=#[.int .i64 x679000_24,.int .i64 (rd y685 t688),.int .i64 t672,.int .i64 t673,.int .i64 t674,.int .i64 t675,.string (⟨#[]⟩:ByteArray)]) ?_ 6 _ rfl;(with_reducible repeat (first|refine bN_ ?_ _|refine bD_ ?_|refine bA_ ?_ _));refine blk_put (cs:=#[.int .i64 x679000_24,.int .i64 (rd y685 t688),.int .i64 t672,.int .i64 t673,.int .i64 t674,.int .i64 0,.string (⟨#[]⟩:ByteArray)]) ?_ 5 _ rfl;(with_reducible repeat (first|refine bN_ ?_ _|refine bD_ ?_|refine bA_ ?_ _));refine blk_put (cs:=#[.int .i64 x679000_24,.int .i64 (rd y685 t688),.int .i64 t672,.int .i64 t673,.int .i64 0,.int .i64 0,.string (⟨#[]⟩:ByteArray)]) ?_ 4 _ rfl;(with_reducible repeat (first|refine bN_ ?_ _|refine bD_ ?_|refine bA_ ?_ _));refine blk_put (cs:=#[.int .i64 x679000_24,.int .i64 (rd y685 t688),.int .i64 t672,.int .i64 0,.int .i64 0,.int .i64 0,.string (⟨#[]⟩:ByteArray)]) ?_ 3 _ rfl;(with_reducible repeat (first|refine bN_ ?_ _|refine bD_ ?_|refine bA_ ?_ _));refine blk_put (cs:=#[.int .i64 x679000_24,.int .i64 (rd y685 t688),.int .i64 0,.int .i64 0,.int .i64 0,.int .i64 0,.string (⟨#[]⟩:ByteArray)]) ?_ 2 _ rfl;(with_reducible repeat (first|refine bN_ ?_ _|refine bD_ ?_|refine bA_ ?_ _));refine blk_put (cs:=#[.int .i64 x679000_24,.int .i64 0,.int .i64 0,.int .i64 0,.int .i64 0,.int .i64 0,.string (⟨#[]⟩:ByteArray)]) ?_ 1 _ rfl;(with_reducible repeat (first|refine bN_ ?_ _|refine bD_ ?_|refine bA_ ?_ _));refine blk_put (cs:=#[.int .i64 0,.int .i64 0,.int .i64 0,.int .i64 0,.int .i64 0,.int .i64 0,.string (⟨#[]⟩:ByteArray)]) ?_ 0 _ rfl;(with_reducible repeat (first|refine bN_ ?_ _|refine bD_ ?_|refine bA_ ?_ _));refine blk_far ?_ NB664_678.out _;(with_reducible repeat (first|refine bN_ ?_ _|refine bD_ ?_|refine bA_ ?_ _));exact BK664.out) Tryd.underlying44 rfl (by kernel_rfl)) rfl ?_
         exact ⟨fi_,bel_⟩
        ·rw [if_neg c43] at H
         exact absurd H (by simp)
       ·rw [if_neg c42] at H
        exact absurd H (by simp)
      ·rw [if_neg c40] at H
       have c40b0:(t681==1)=false:=bn_ c40
       have c40b1:(t681 != 1)=true:=bne_iff_ne.mpr c40
       simp only [Option.some.injEq,Prod.mk.injEq] at H
       obtain ⟨rfl,rfl,rfl,rfl,rfl,rfl,rfl⟩:=H
       go_wp2_with (first|((with_reducible refine gC_ (f:=74) rfl ?_);refine gl_ 31 Tryd.func74 #[.pointer (some ⟨g667,0,none⟩),.int .i64 12] ?_;(with_reducible refine (spec_l6Rd_pick.calls kj24 g667 t665 x668001_5 12 t681 t682 w _ ?side1 ?side2 A30.out).mono ?_);(case side1=>exact is_HI667);(case side2=>exact bel_);rintro e w54 ⟨rfl,hi,hb,hk⟩;refine ⟨_,rfl,?_⟩;replace BK664:=a_ (kb_ hk BK664.out NB664_667.out);replace BK678:=a_ (kb_ hk BK678.out NB678_667.out);replace HB:=a_ (hb);replace HI667:=a_ (hi);(try clear hb hk hi);have hnb55:=NB678_664.out;have hnc55:=NB664_678.out;have hnb56:=NB678_667.out;have hnc56:=NB667_678.out;obtain ⟨Z57_0,Z57_1,Z57_2,Z57_3,Z57_4,Z57_5,Z57_6,Y57_0,Y57_1,Y57_2,Y57_3,Y57_4,Y57_5,Y57_6⟩:=op7_ BK678.out;have hnb58:=NB664_667.out;have hnc58:=NB667_664.out;obtain ⟨Z59_0,Z59_1,Z59_2,Z59_3,Z59_4,Z59_5,Z59_6,Y59_0,Y59_1,Y59_2,Y59_3,Y59_4,Y59_5,Y59_6⟩:=op7_ BK664.out))
       refine bodyPost_ret (results_cell_row rfl _ _ gb664 44 #[.int .i64 x679000_24,.int .i64 (wrap64 (1+t670)),.int .i64 t672,.int .i64 t673,.int .i64 t674,.int .i64 t675,.string t676] (0,0) _ rfl (by (with_reducible repeat (first|refine bN_ ?_ _|refine bD_ ?_|refine bA_ ?_ _));exact bk7_ (bp_ BK664.out)) Tryd.underlying44 rfl (by kernel_rfl)) rfl ?_
       exact ⟨fi_,bel_⟩

def spec_DrawLogAdd.j0:Nat→List Int→List (S44)→Bool→List Int→Int→Option ((List (S44))×Int×Int×Int×Int×Int×Int×ByteArray)
 | 0,_,_,_,_,_=>none
 | k+1,x0,x5,x18,x695000,x695001=>if x18=true then ((spec_l6Rd_pick.f k x695000 x695001 (x5.length:Int)).bind fun bt701=>(if 0≤bt701.1 then (if bt701.1 < (x5.length:Int) then (some (x5,(rd_T44 x5 bt701.1).f0,(rd_T44 x5 bt701.1).f1,(rd_T44 x5 bt701.1).f2.f0,(rd_T44 x5 bt701.1).f2.f1,(rd_T44 x5 bt701.1).f2.f2,(rd_T44 x5 bt701.1).f2.f3,(rd_T44 x5 bt701.1).f2.f4)) else (none)) else (none))) else ((spec_DrawEntryOk.f k x0).bind fun bt704=>((spec_l6Rd_pick.f k x695000 x695001 6).bind fun bt712=>(if bt712.1 > 0 then ((spec_l12Seq.f k x5 bt704.1).bind fun t714=>(some (x5,bt704.1,wrap64 (t714+1),bt704.2.2.1,bt704.2.2.2.1,bt704.2.2.2.2.1,bt704.2.2.2.2.2.1,bt704.2.2.2.2.2.2))) else (some (x5,bt704.1,bt704.2.1,bt704.2.2.1,bt704.2.2.2.1,bt704.2.2.2.2.1,bt704.2.2.2.2.2.1,bt704.2.2.2.2.2.2)))))
def spec_DrawLogAdd.f (k:Nat) (l0:List Int):Option ((List (S44))×Int×Int×Int×Int×Int×Int×ByteArray):=(spec_l6Open.f l0).bind fun bt692=>((spec_l72Log.f k bt692.1 bt692.2).bind fun bt695=>(if (bt695.1.length:Int) > 0 then ((spec_l6Rd_pick.f k bt692.1 bt695.2 4).bind fun bt699=>(spec_DrawLogAdd.j0 k l0 bt695.1 (bt699.1==0) bt692.1 bt699.2)) else (spec_DrawLogAdd.j0 k l0 bt695.1 false bt692.1 bt695.2)))
theorem spec_DrawLogAdd.mono_l:∀ k,(∀ y0 y1 y2 y3 y4,LeO (spec_DrawLogAdd.j0 k y0 y1 y2 y3 y4) (spec_DrawLogAdd.j0 (k+1) y0 y1 y2 y3 y4))
 | 0=>fun _ _ _ _ _ r h=>by simp [spec_DrawLogAdd.j0] at h
 | k+1=>by
  have ih0:=spec_DrawLogAdd.mono_l k
  ·intro y0 y1 y2 y3 y4
   unfold spec_DrawLogAdd.j0
   repeat' first
   | (with_reducible exact ih0 _ _ _ _ _)
   | (with_reducible exact spec_DrawEntryOk.mono _ _)
   | (with_reducible exact spec_l12Seq.mono _ _ _)
   | (with_reducible exact spec_l6Rd_pick.mono _ _ _ _)
   | (with_reducible exact spec_l72Log.mono _ _ _)
   | (with_reducible exact LeO.refl _)
   | (with_reducible exact LeO.none _)
   | (with_reducible refine LeO.ite ?_ ?_)
   | (with_reducible refine LeO.bind ?_ (fun _=>?_))
theorem spec_DrawLogAdd.mono:∀ a0 k,LeO (spec_DrawLogAdd.f k a0) (spec_DrawLogAdd.f (k+1) a0):=by
 intro a0 k
 have ih0:=spec_DrawLogAdd.mono_l k
 unfold spec_DrawLogAdd.f
 repeat' first
   | (with_reducible exact ih0 _ _ _ _ _)
   | (with_reducible exact spec_DrawEntryOk.mono _ _)
   | (with_reducible exact spec_l12Seq.mono _ _ _)
   | (with_reducible exact spec_l6Rd_pick.mono _ _ _ _)
   | (with_reducible exact spec_l72Log.mono _ _ _)
   | (with_reducible exact LeO.refl _)
   | (with_reducible exact LeO.none _)
   | (with_reducible refine LeO.ite ?_ ?_)
   | (with_reducible refine LeO.bind ?_ (fun _=>?_))
def spec_DrawLogAdd.T4:Bool×List (List Nat×List Nat):=(true,[([],[]),([],[]),([],[]),([],[]),([3],[3]),([2,4],[2,4]),([1,5],[1,5]),([6],[6]),([0,5,0],[0]),([7,8,0,1,2,3,4,5,6,7,8],[7])])
def spec_DrawLogAdd.B4:List Nat:=[0,0,0,0,8,28,62,126,61,511]
theorem spec_DrawLogAdd.tab4:rtab .any (opsOf Tryd.f36 4)=spec_DrawLogAdd.T4:=by kernel_rfl
theorem spec_DrawLogAdd.bits4:waitsOk spec_DrawLogAdd.T4.2 spec_DrawLogAdd.B4=true:=by kernel_rfl
end Go.Proofs.YtdpklbomhdpimaaDoor.P
