/- Joined by a program (wip/shake.py): the declarations that 'YtdpklbomhdpimaaDoorCardFnExactClientDo' reaches. -/
import Derived.Test.YtdpklbomhdpimaaDoorZLm9
set_option linter.unusedVariables false
set_option linter.unusedSimpArgs false
set_option linter.unusedSectionVars false
set_option maxHeartbeats 8000000
set_option maxRecDepth 100000
namespace Go.Proofs.YtdpklbomhdpimaaDoor.PL
open Go.RowKit Go.Proofs.YtdpklbomhdpimaaDoor.P Go.Proofs.YtdpklbomhdpimaaDoorW.PrintWords Go.Proofs.YtdpklbomhdpimaaDoorW.PrintLast
def madeV (who n:Int):Int:=if n≤6 then 10 * who+n else 0
theorem imade_n {who n:Int} (hw:1≤who∧who≤3) (hn:1≤n∧n≤7):impl_RowMade.f who n=some (madeV who n):=by
 unfold impl_RowMade.f impl_whoOk.f madeV
 rw [if_pos (show who≥1 by omega)]
 simp only [Option.bind_some]
 rw [if_pos (show decide (who≤3)=true by simp;omega),if_neg (show ¬ n < 1 by omega)]
 by_cases h:n≤6
 ·rw [if_neg (show ¬ n > 6 by omega),if_pos h,wrap_id (10 * who) (by omega) (by omega),wrap_id _ (by omega) (by omega)]
 ·rw [if_pos (show n > 6 by omega),if_neg h]
theorem smade_n {who n:Int} (hw:1≤who∧who≤3) (hn:1≤n∧n≤7):spec_RowMade.f who n=some (madeV who n):=by
 unfold spec_RowMade.f madeV
 simp only [in_f,Option.bind_some]
 rw [if_pos (show (decide (1≤who)&&decide (who≤3))=true by simp;omega)]
 by_cases h:n≤6
 ·rw [if_pos (show (decide (1≤n)&&decide (n≤6))=true by simp;omega),if_pos h,wrap_id (10 * who) (by omega) (by omega),wrap_id _ (by omega) (by omega)]
 ·rw [if_neg (show ¬ (decide (1≤n)&&decide (n≤6))=true by simp;omega),if_neg h]
def newE (a c:Int) (n:Nat) (k i u v:Int) (s:ByteArray):S44:=⟨a,c+n+1,⟨k,i,u,v,s⟩⟩
def cdoB (a c d:Int) (n:Nat) (k i u v:Int) (s:ByteArray):Bool:=entB (newE a c n k i u v s)&&!(decide (k=1)&&decide (i≠madeV a (d+1)))
def cdoV (a b:Int) (t:List S69) (l:List S44) (c d k i u v:Int) (s:ByteArray):Int×Int×List S69×List S44×Int×Int×Bool :=
 if cliB a b t l c d=true then (if cdoB a c d l.length k i u v s=true then (a,b,t,l++[newE a c l.length k i u v s],c,(if k=1 then d+1 else d),true) else (a,b,t,l,c,d,false)) else (0,0,[],[],0,0,false)
theorem cliB_true {a b c d:Int} {t:List S69} {l:List S44} (h:cliB a b t l c d=true):(1≤a∧a≤3)∧(0≤c∧c≤40)∧c+l.length≤40∧(0≤d∧d≤6):=by
 unfold cliB at h
 simp only [Bool.and_eq_true,decide_eq_true_eq] at h
 obtain ⟨h1,h2,_,h3,h4,h5,_⟩:=h
 exact ⟨h1,⟨h3.1,by omega⟩,h4,h5⟩
section
variable (a b:Int) (t:List S69) (l:List S44) (c d k i u v:Int) (s:ByteArray)
theorem cdo_len:(cdoV a b t l c d k i u v s).2.2.1.length≤t.length∧(cdoV a b t l c d k i u v s).2.2.2.1.length≤l.length+1:=by
 unfold cdoV
 split
 ·split
  ·simp
  ·simp
 ·simp
theorem newE_wf (ha:I64 a) (hc:I64 (c+l.length+1)) (hk:I64 k) (hi:I64 i) (hu:I64 u) (hv:I64 v) (hs:s.size≤9223372036854775807):wfE (newE a c l.length k i u v s):=⟨ha,hc,hk,hi,hu,hv,hs⟩
theorem icdo_f (hw:wfL l) (hk:I64 k) (hi:I64 i) (hu:I64 u) (hv:I64 v) (hs:s.size≤9223372036854775807) (ht:t.length≤1000000000) (hl:l.length≤1000000000):Ev (fun n=>impl_ClientDo.f n a b t l c d k i u v s) (cdoV a b t l c d k i u v s):=by
 unfold impl_ClientDo.f cdoV
 refine Ev.bind (icli_f a b c d t l hw (by omega)) ?_
 cases hB:cliB a b t l c d with
 | false =>
  rw [if_neg (show ¬ (false=true) by decide)]
  exact ev_neg (by decide) (evnow _)
 | true =>
  obtain ⟨h1,h2,h3,h4⟩:=cliB_true hB
  rw [if_pos rfl]
  refine ev_pos rfl ?_
  have hcp:impl_copyClient.f a b t l c d=some (a,b,t,l,c,d):=by
   unfold impl_copyClient.f impl_cloneR.f impl_Entry_85.f
   rw [if_pos (by omega),if_pos (by omega)]
   rfl
  rw [hcp]
  simp only [Option.bind_some]
  have ws:wrap64 (wrap64 (c+(l.length:Int))+1)=c+l.length+1:=by rw [wrap_id (c+l.length) (by omega) (by omega),wrap_id _ (by omega) (by omega)]
  have wd:wrap64 (d+1)=d+1:=wrap_id _ (by omega) (by omega)
  rw [ws,wd,imade_n h1 ⟨by omega,by omega⟩]
  simp only [Option.bind_some]
  have he:=ent_f (newE a c l.length k i u v s) (newE_wf a l c k i u v s ⟨by omega,by omega⟩ ⟨by omega,by omega⟩ hk hi hu hv hs)
  refine Ev.bind he ?_
  have jt:Ev (fun n=>impl_ClientDo.j0 n true a b t l c d k i u v s a (c+l.length+1) k i u v s) (a,b,t,l,c,d,false):=Ev.step (f:=fun _=>some (a,b,t,l,c,d,false)) (fun n=>by simp only [impl_ClientDo.j0];rfl) (evnow _)
  have jf:Ev (fun n=>impl_ClientDo.j0 n false a b t l c d k i u v s a (c+l.length+1) k i u v s) (a,b,t,l++[newE a c l.length k i u v s],c,(if k=1 then d+1 else d),true):=by
   refine Ev.step (fun n=>by simp only [impl_ClientDo.j0];rfl) ?_
   refine ev_neg (by decide) (ev_pos (by omega) ?_)
   simp only [Option.bind_some]
   by_cases k1:k=1
   ·rw [if_pos k1,if_pos k1,wd]
    exact evnow _
   ·rw [if_neg k1,if_neg k1]
    exact evnow _
  unfold cdoB
  cases hE:entB (newE a c l.length k i u v s) with
  | false =>
   rw [Bool.false_and,if_neg (show ¬ (false=true) by decide)]
   exact ev_neg (by decide) jt
  | true =>
   rw [Bool.true_and]
   refine ev_pos rfl ?_
   by_cases k1:k=1
   ·refine ev_pos k1 ?_
    by_cases q:i=madeV a (d+1)
    ·have z:(i != madeV a (d+1))=false:=by rw [q];simp
     rw [z,if_pos (show (!(decide (k=1)&&decide (i≠madeV a (d+1))))=true by simp [q])]
     exact jf
    ·have z:(i != madeV a (d+1))=true:=by simpa using q
     rw [z,if_neg (show ¬ (!(decide (k=1)&&decide (i≠madeV a (d+1))))=true by simp [q,k1])]
     exact jt
   ·rw [if_pos (show (!(decide (k=1)&&decide (i≠madeV a (d+1))))=true by simp [k1])]
    exact ev_neg k1 jf
theorem scdo_f (hw:wfL l) (hr:∀ r∈t,wfR r) (hb:I64 b) (hc:I64 c) (hk:I64 k) (hi:I64 i) (hu:I64 u) (hv:I64 v) (hs:s.size≤9223372036854775807) (ht:t.length≤1000000000) (hl:l.length≤1000000000):Ev (fun n=>spec_ClientDo.f n a b t l c d k i u v s) (cdoV a b t l c d k i u v s):=by
 unfold spec_ClientDo.f cdoV
 refine Ev.bind (scli_f a b c d t l hw (by omega) (by omega) hr hb hc) ?_
 cases hB:cliB a b t l c d with
 | false =>
  rw [if_neg (show ¬ (false=true) by decide)]
  exact ev_neg (by decide) (evnow _)
 | true =>
  obtain ⟨h1,h2,h3,h4⟩:=cliB_true hB
  rw [if_pos rfl]
  refine ev_pos rfl ?_
  have hcp:spec_l21Copy.f a b t l c d=some (a,b,t,l,c,d):=by
   unfold spec_l21Copy.f
   simp only [Option.bind_some,List.length_nil,List.nil_append]
   rw [if_pos (by omega),if_pos (by omega)]
  rw [hcp]
  simp only [Option.bind_some]
  have hX:∀ r:Int×Int×List S69×List S44×Int×Int×Bool,Ev (fun n=>spec_l21Do.f n a b t l c d k i u v s) r→Ev (fun n=>(spec_l21Do.f n a b t l c d k i u v s).bind fun q=>some (q.1,q.2.1,q.2.2.1,q.2.2.2.1,q.2.2.2.2.1,q.2.2.2.2.2.1,q.2.2.2.2.2.2)) r:=fun r h=>Ev.bind h (evnow _)
  refine hX _ ?_
  unfold spec_l21Do.f
  have ws:wrap64 (wrap64 (c+(l.length:Int))+1)=c+l.length+1:=by rw [wrap_id (c+l.length) (by omega) (by omega),wrap_id _ (by omega) (by omega)]
  have wd:wrap64 (d+1)=d+1:=wrap_id _ (by omega) (by omega)
  rw [ws,wd,smade_n h1 ⟨by omega,by omega⟩]
  simp only [Option.bind_some]
  have he:=sent_f (newE a c l.length k i u v s) (newE_wf a l c k i u v s ⟨by omega,by omega⟩ ⟨by omega,by omega⟩ hk hi hu hv hs)
  refine Ev.bind he ?_
  have jt:Ev (fun n=>spec_l21Do.j0 n true a b t l c d k i u v s a (c+l.length+1) k i u v s) (a,b,t,l,c,d,false):=Ev.step (f:=fun _=>some (a,b,t,l,c,d,false)) (fun n=>by simp only [spec_l21Do.j0];rfl) (evnow _)
  have jf:Ev (fun n=>spec_l21Do.j0 n false a b t l c d k i u v s a (c+l.length+1) k i u v s) (a,b,t,l++[newE a c l.length k i u v s],c,(if k=1 then d+1 else d),true):=by
   refine Ev.step (fun n=>by simp only [spec_l21Do.j0];rfl) ?_
   refine ev_neg (by decide) ?_
   simp only [Option.bind_some,List.length_nil,List.nil_append,List.length_cons]
   by_cases k1:k=1
   ·rw [if_pos k1,if_pos k1,wd]
    exact ev_pos (by omega) (ev_pos (by omega) (evnow _))
   ·rw [if_neg k1,if_neg k1]
    exact ev_pos (by omega) (ev_pos (by omega) (evnow _))
  unfold cdoB
  cases hE:entB (newE a c l.length k i u v s) with
  | false =>
   rw [Bool.false_and,if_neg (show ¬ (false=true) by decide)]
   exact ev_neg (by decide) jt
  | true =>
   rw [Bool.true_and]
   refine ev_pos rfl ?_
   by_cases k1:k=1
   ·refine ev_pos k1 ?_
    by_cases q:i=madeV a (d+1)
    ·have z:(i != madeV a (d+1))=false:=by rw [q];simp
     rw [z,if_pos (show (!(decide (k=1)&&decide (i≠madeV a (d+1))))=true by simp [q])]
     exact jf
    ·have z:(i != madeV a (d+1))=true:=by simpa using q
     rw [z,if_neg (show ¬ (!(decide (k=1)&&decide (i≠madeV a (d+1))))=true by simp [q,k1])]
     exact jt
   ·rw [if_pos (show (!(decide (k=1)&&decide (i≠madeV a (d+1))))=true by simp [k1])]
    exact ev_neg k1 jf
end
end Go.Proofs.YtdpklbomhdpimaaDoor.PL
namespace Go.Proofs.YtdpklbomhdpimaaDoor.PL
open Go.RowKit Go.Proofs.YtdpklbomhdpimaaDoor.P Go.Proofs.YtdpklbomhdpimaaDoorW.PrintWords Go.Proofs.YtdpklbomhdpimaaDoorW.PrintLast
theorem one_size (xs:List Int):(strOfNums xs).size=xs.length:=by simp [strOfNums,ByteArray.size]
theorem mtl_ex (m:Nat):∀ (x:Int) (s:ByteArray),x < 10 ^ m→x≤9223372036854775807→s.size+m+1≤9223372036854775807→∃ r,Ev (fun k=>laws_markText.l0 k x s) r:=by
 induction m with
 | zero =>
  intro x s hx _ hs
  refine ⟨_,Ev.step (f:=fun _=>some ((⟨#[109]⟩:ByteArray)++s)) (fun k=>?_) (evnow _)⟩
  simp only [laws_markText.l0]
  rw [if_neg (by simp at hx;omega),if_pos (by omega)]
 | succ m ih =>
  intro x s hx hb hs
  by_cases h0:x > 0
  ·have e:Int.tdiv x 10=x / 10:=Int.tdiv_eq_ediv_of_nonneg (by omega)
   have e2:wrap64 (Int.tdiv x 10)=x / 10:=by rw [e];unfold wrap64;omega
   have e3:(10:Int) ^ (m+1)=10 ^ m * 10:=Int.pow_succ 10 m
   obtain ⟨r,hr⟩:=ih (wrap64 (Int.tdiv x 10)) ((strOfNums [(wrap64 (48+(Int.tmod x 10))) % 256])++s) (by rw [e2];omega) (by rw [e2];omega) (by rw [ByteArray.size_append,one_size];simp;omega)
   refine ⟨r,Ev.step (fun k=>?_) hr⟩
   simp only [laws_markText.l0,Option.bind_some]
   rw [if_pos h0,if_pos (by rw [one_size];simp;omega)]
  ·refine ⟨_,Ev.step (f:=fun _=>some ((⟨#[109]⟩:ByteArray)++s)) (fun k=>?_) (evnow _)⟩
   simp only [laws_markText.l0]
   rw [if_neg h0,if_pos (by omega)]
theorem mt_ex (x:Int) (h:x≤4611686018427387904):∃ r,Ev (fun k=>laws_markText.f k x) r:=by
 by_cases h0:x≤0
 ·exact ⟨(⟨#[109,48]⟩:ByteArray),Ev.congr (f:=fun _=>some (⟨#[109,48]⟩:ByteArray)) (fun k=>by simp only [laws_markText.f];rw [if_pos h0]) (evnow _)⟩
 ·obtain ⟨r,hr⟩:=mtl_ex 19 x ⟨#[]⟩ (by omega) (by omega) (by decide)
  exact ⟨r,Ev.congr (fun k=>by simp only [laws_markText.f];rw [if_neg h0]) hr⟩
open Classical in
noncomputable def mt (x:Int):ByteArray:=if h:x≤4611686018427387904 then (mt_ex x h).choose else ⟨#[]⟩
theorem mt_ev (x:Int) (h:x≤4611686018427387904):Ev (fun k=>laws_markText.f k x) (mt x):=by
 unfold mt
 rw [dif_pos h]
 exact (mt_ex x h).choose_spec

theorem set_set_ {α:Type} (x:List α) (i:Nat) (v u:α):(x.set i v).set i u=x.set i u:=by rw [List.set_set]
noncomputable def mkE (a:Int):S44:=⟨a,a+1,⟨a+2,a+3,a+4,a+5,mt (a+6)⟩⟩
noncomputable def marksE:Int→Nat→List S44
 | _,0=>[]
 | a,n+1=>mkE a::marksE (a+7) n
theorem marksE_len:∀ (n:Nat) (a:Int),(marksE a n).length=n
 | 0,_=>rfl
 | n+1,a=>by rw [marksE,List.length_cons,marksE_len n]
theorem rdE_set (x:List S44) (i:Int) (v:S44) (h0:0≤i) (h:i < x.length):rd_T44 (x.set i.toNat v) i=v:=by
 unfold rd_T44
 rw [List.getD_eq_getElem?_getD,List.getElem?_set_self (by omega)]
 rfl
theorem markE_ev (d:Nat):∀ (x:List S44) (a i:Int),0≤i→(x.length:Int) - i=d→x.length≤1099511627776→0≤a→a+7 * d≤1152921504606846976 →
  Ev (fun k=>laws_markEntryS.l0 k x a i) (a+7 * d,x.take i.toNat++marksE a d):=by
 induction d with
 | zero =>
  intro x a i h0 hd hl ha hb
  refine Ev.step (f:=fun _=>some (a,x)) (fun k=>?_) ?_
  ·simp only [laws_markEntryS.l0];rw [if_neg (by omega)]
  ·rw [List.take_of_length_le (by omega)];simp only [marksE,List.append_nil]
   rw [show a+7 * ((0:Nat):Int)=a by omega];exact evnow _
 | succ d ih =>
  intro x a i h0 hd hl ha hb
  have hi:i < (x.length:Int):=by omega
  have e1:wrap64 (a+1)=a+1:=wrapS a ha (by omega)
  have e2:wrap64 (a+1+1)=a+2:=by rw [wrapS _ (by omega) (by omega)];omega
  have e3:wrap64 (a+2+1)=a+3:=by rw [wrapS _ (by omega) (by omega)];omega
  have e4:wrap64 (a+3+1)=a+4:=by rw [wrapS _ (by omega) (by omega)];omega
  have e5:wrap64 (a+4+1)=a+5:=by rw [wrapS _ (by omega) (by omega)];omega
  have e6:wrap64 (a+5+1)=a+6:=by rw [wrapS _ (by omega) (by omega)];omega
  have e7:wrap64 (a+6+1)=a+7:=by rw [wrapS _ (by omega) (by omega)];omega
  have ei:wrap64 (i+1)=i+1:=wrapS i h0 (by omega)
  have H:=ih (x.set i.toNat (mkE a)) (a+7) (i+1) (by omega) (by rw [List.length_set];omega) (by rw [List.length_set];omega) (by omega) (by omega)
  rw [take_set_next x i _ h0 hi,show a+7+7 * (d:Int)=a+7 * ((d+1:Nat):Int) by omega,List.append_assoc] at H
  refine Ev.step (f:=fun k=>(laws_markText.f k (a+6)).bind fun t=>laws_markEntryS.l0 k (x.set i.toNat ⟨a,a+1,⟨a+2,a+3,a+4,a+5,t⟩⟩) (a+7) (i+1)) (fun k=>?_) (Ev.bind (mt_ev _ (by omega)) H)
  simp only [laws_markEntryS.l0,if_pos hi,if_pos h0,Option.bind_some,set_set_,rdE_set _ _ _ h0 hi,e1,e2,e3,e4,e5,e6,e7,ei]
theorem heldE_ev (d:Nat):∀ (x:List S44) (a i:Int),0≤i→(x.length:Int) - i=d→x.length≤1099511627776→0≤a→a+7 * d≤1152921504606846976→x.drop i.toNat=marksE a d →
  Ev (fun k=>laws_heldEntryS.l0 k x a i) (a+7 * d):=by
 induction d with
 | zero =>
  intro x a i h0 hd hl ha hb he
  refine Ev.step (f:=fun _=>some a) (fun k=>?_) ?_
  ·simp only [laws_heldEntryS.l0];rw [if_neg (by omega)]
  ·rw [show a+7 * ((0:Nat):Int)=a by omega];exact evnow _
 | succ d ih =>
  intro x a i h0 hd hl ha hb he
  have hi:i < (x.length:Int):=by omega
  have e1:wrap64 (a+1)=a+1:=wrapS a ha (by omega)
  have e2:wrap64 (a+1+1)=a+2:=by rw [wrapS _ (by omega) (by omega)];omega
  have e3:wrap64 (a+2+1)=a+3:=by rw [wrapS _ (by omega) (by omega)];omega
  have e4:wrap64 (a+3+1)=a+4:=by rw [wrapS _ (by omega) (by omega)];omega
  have e5:wrap64 (a+4+1)=a+5:=by rw [wrapS _ (by omega) (by omega)];omega
  have e6:wrap64 (a+5+1)=a+6:=by rw [wrapS _ (by omega) (by omega)];omega
  have e7:wrap64 (a+6+1)=a+7:=by rw [wrapS _ (by omega) (by omega)];omega
  have ei:wrap64 (i+1)=i+1:=wrapS i h0 (by omega)
  have hn:i.toNat < x.length:=by omega
  have hc:=List.drop_eq_getElem_cons hn
  rw [he,marksE] at hc
  have hx:rd_T44 x i=mkE a:=by
   unfold rd_T44
   rw [List.getD_eq_getElem?_getD,List.getElem?_eq_getElem hn]
   exact (List.cons.inj hc).1.symm
  have H:=ih x (a+7) (i+1) (by omega) (by omega) hl (by omega) (by omega) (by rw [show (i+1).toNat=i.toNat+1 by omega];exact (List.cons.inj hc).2.symm)
  rw [show a+7+7 * (d:Int)=a+7 * ((d+1:Nat):Int) by omega] at H
  refine Ev.step (f:=fun k=>(laws_markText.f k (a+6)).bind fun t=>if (mt (a+6)).toList=t.toList then laws_heldEntryS.l0 k x (a+7) (i+1) else some (-1)) (fun k=>?_) (Ev.bind (mt_ev _ (by omega)) (Ev.congr (fun k=>if_pos rfl) H))
  simp only [laws_heldEntryS.l0]
  rw [if_pos hi,if_pos h0,e1,e2,e3,e4,e5,e6,e7,ei,hx]
  simp only [mkE,if_true]
  rfl
theorem markE_f (x:List S44) (a:Int) (hl:x.length≤1099511627776) (ha:0≤a) (hb:a≤1125899906842624) :
  Ev (fun k=>laws_markEntryS.f k x a) (a+7 * x.length,marksE a x.length):=by
 have h:=markE_ev x.length x a 0 (by omega) (by omega) hl ha (by omega)
 simp only [Int.toNat_zero,List.take_zero,List.nil_append] at h
 exact h
theorem heldE_f (n:Nat) (a:Int) (hl:n≤1099511627776) (ha:0≤a) (hb:a≤1125899906842624) :
  Ev (fun k=>laws_heldEntryS.f k (marksE a n) a) (a+7 * n) :=
 heldE_ev n (marksE a n) a 0 (by omega) (by rw [marksE_len];omega) (by rw [marksE_len];exact hl) ha (by omega) rfl

noncomputable def mkR (a:Int):S69:=⟨a,a+1,mt (a+2)⟩
noncomputable def marksR:Int→Nat→List S69
 | _,0=>[]
 | a,n+1=>mkR a::marksR (a+3) n
theorem marksR_len:∀ (n:Nat) (a:Int),(marksR a n).length=n
 | 0,_=>rfl
 | n+1,a=>by rw [marksR,List.length_cons,marksR_len n]
theorem rdRw_set (x:List S69) (i:Int) (v:S69) (h0:0≤i) (h:i < x.length):rd_T69 (x.set i.toNat v) i=v:=by
 unfold rd_T69
 rw [List.getD_eq_getElem?_getD,List.getElem?_set_self (by omega)]
 rfl
theorem markR_ev (d:Nat):∀ (x:List S69) (a i:Int),0≤i→(x.length:Int) - i=d→x.length≤1099511627776→0≤a→a+3 * d≤1152921504606846976 →
  Ev (fun k=>laws_markRowS.l0 k x a i) (a+3 * d,x.take i.toNat++marksR a d):=by
 induction d with
 | zero =>
  intro x a i h0 hd hl ha hb
  refine Ev.step (f:=fun _=>some (a,x)) (fun k=>?_) ?_
  ·simp only [laws_markRowS.l0];rw [if_neg (by omega)]
  ·rw [List.take_of_length_le (by omega)];simp only [marksR,List.append_nil]
   rw [show a+3 * ((0:Nat):Int)=a by omega];exact evnow _
 | succ d ih =>
  intro x a i h0 hd hl ha hb
  have hi:i < (x.length:Int):=by omega
  have e1:wrap64 (a+1)=a+1:=wrapS a ha (by omega)
  have e2:wrap64 (a+1+1)=a+2:=by rw [wrapS _ (by omega) (by omega)];omega
  have e3:wrap64 (a+2+1)=a+3:=by rw [wrapS _ (by omega) (by omega)];omega
  have ei:wrap64 (i+1)=i+1:=wrapS i h0 (by omega)
  have H:=ih (x.set i.toNat (mkR a)) (a+3) (i+1) (by omega) (by rw [List.length_set];omega) (by rw [List.length_set];omega) (by omega) (by omega)
  rw [take_set_next x i _ h0 hi,show a+3+3 * (d:Int)=a+3 * ((d+1:Nat):Int) by omega,List.append_assoc] at H
  refine Ev.step (f:=fun k=>(laws_markText.f k (a+2)).bind fun t=>laws_markRowS.l0 k (x.set i.toNat ⟨a,a+1,t⟩) (a+3) (i+1)) (fun k=>?_) (Ev.bind (mt_ev _ (by omega)) H)
  simp only [laws_markRowS.l0,if_pos hi,if_pos h0,Option.bind_some,set_set_,rdRw_set _ _ _ h0 hi,e1,e2,e3,ei]
theorem heldR_ev (d:Nat):∀ (x:List S69) (a i:Int),0≤i→(x.length:Int) - i=d→x.length≤1099511627776→0≤a→a+3 * d≤1152921504606846976→x.drop i.toNat=marksR a d →
  Ev (fun k=>laws_heldRowS.l0 k x a i) (a+3 * d):=by
 induction d with
 | zero =>
  intro x a i h0 hd hl ha hb he
  refine Ev.step (f:=fun _=>some a) (fun k=>?_) ?_
  ·simp only [laws_heldRowS.l0];rw [if_neg (by omega)]
  ·rw [show a+3 * ((0:Nat):Int)=a by omega];exact evnow _
 | succ d ih =>
  intro x a i h0 hd hl ha hb he
  have hi:i < (x.length:Int):=by omega
  have e1:wrap64 (a+1)=a+1:=wrapS a ha (by omega)
  have e2:wrap64 (a+1+1)=a+2:=by rw [wrapS _ (by omega) (by omega)];omega
  have e3:wrap64 (a+2+1)=a+3:=by rw [wrapS _ (by omega) (by omega)];omega
  have ei:wrap64 (i+1)=i+1:=wrapS i h0 (by omega)
  have hn:i.toNat < x.length:=by omega
  have hc:=List.drop_eq_getElem_cons hn
  rw [he,marksR] at hc
  have hx:rd_T69 x i=mkR a:=by
   unfold rd_T69
   rw [List.getD_eq_getElem?_getD,List.getElem?_eq_getElem hn]
   exact (List.cons.inj hc).1.symm
  have H:=ih x (a+3) (i+1) (by omega) (by omega) hl (by omega) (by omega) (by rw [show (i+1).toNat=i.toNat+1 by omega];exact (List.cons.inj hc).2.symm)
  rw [show a+3+3 * (d:Int)=a+3 * ((d+1:Nat):Int) by omega] at H
  refine Ev.step (f:=fun k=>(laws_markText.f k (a+2)).bind fun t=>if (mt (a+2)).toList=t.toList then laws_heldRowS.l0 k x (a+3) (i+1) else some (-1)) (fun k=>?_) (Ev.bind (mt_ev _ (by omega)) (Ev.congr (fun k=>if_pos rfl) H))
  simp only [laws_heldRowS.l0]
  rw [if_pos hi,if_pos h0,e1,e2,e3,ei,hx]
  simp only [mkR,if_true]
  rfl
theorem markR_f (x:List S69) (a:Int) (hl:x.length≤1099511627776) (ha:0≤a) (hb:a≤1125899906842624) :
  Ev (fun k=>laws_markRowS.f k x a) (a+3 * x.length,marksR a x.length):=by
 have h:=markR_ev x.length x a 0 (by omega) (by omega) hl ha (by omega)
 simp only [Int.toNat_zero,List.take_zero,List.nil_append] at h
 exact h
theorem heldR_f (n:Nat) (a:Int) (hl:n≤1099511627776) (ha:0≤a) (hb:a≤1125899906842624) :
  Ev (fun k=>laws_heldRowS.f k (marksR a n) a) (a+3 * n) :=
 heldR_ev n (marksR a n) a 0 (by omega) (by rw [marksR_len];omega) (by rw [marksR_len];exact hl) ha (by omega) rfl
theorem markCli_f (a b:Int) (t:List S69) (l:List S44) (c d:Int) (ht:t.length≤1099511627776) (hl:l.length≤1099511627776):Ev (fun k=>laws_markClient.f k a b t l c d 1) (1+3 * t.length+7 * l.length,marksR 1 t.length,marksE (1+3 * t.length) l.length):=by
 unfold laws_markClient.f
 exact Ev.bind (markR_f t 1 ht (by omega) (by omega)) (Ev.bind (markE_f l _ hl (by omega) (by omega)) (evnow _))
theorem heldCli_f (a b:Int) (n m:Nat) (c d:Int) (ht:n≤1099511627776) (hl:m≤1099511627776):Ev (fun k=>laws_heldClient.f k a b (marksR 1 n) (marksE (1+3 * n) m) c d 1) (1+3 * n+7 * m):=by
 unfold laws_heldClient.f
 exact Ev.bind (heldR_f n 1 ht (by omega) (by omega)) (ev_neg (by omega) (Ev.bind (heldE_f m _ hl (by omega) (by omega)) (ev_neg (by omega) (evnow _))))
theorem szOp_ex (k i u v:Int) (s:ByteArray) (r:Int):∃ q,laws_szOp.f k i u v s r=some q:=by
 unfold laws_szOp.f
 split <;> exact ⟨_,rfl⟩
theorem FnExactClientDo (a b:Int) (t:List S183) (l:List S36) (c d k i u v:Int) (s:ByteArray) (hwt:∀ e∈t,wfXR e) (hlt:t.length≤9223372036854775807) (hw:∀ e∈l,wfX e) (hl:l.length≤9223372036854775807) (_:I64 a) (hb:I64 b) (hc:I64 c) (_:I64 d) (hk:I64 k) (hi:I64 i) (hu:I64 u) (hv:I64 v) (hs:s.size≤9223372036854775807):∃ n,laws_FnExactClientDo.f n a b t l c d k i u v s=some true:=by
 suffices h:Ev (fun n=>laws_FnExactClientDo.f n a b t l c d k i u v s) true by obtain ⟨K,h⟩:=h;exact ⟨K,h K (Nat.le_refl K)⟩
 obtain ⟨r,hr,hb2⟩:=szCli_f a b c d t l hwt hlt hw hl
 unfold laws_FnExactClientDo.f
 refine Ev.bind hr ?_
 by_cases h0:r < 0
 ·exact ev_pos h0 (evnow _)
 ·refine ev_neg h0 ?_
  obtain ⟨q,hq⟩:=szOp_ex k i u v s r
  rw [hq]
  simp only [Option.bind_some]
  by_cases q0:q < 0
  ·exact ev_pos q0 (evnow _)
  ·refine ev_neg q0 ?_
   obtain ⟨n1,n2⟩:=hb2 h0
   have hT:=toCli_f a b c d t l n1 n2
   have hO:laws_toOp.f k i u v s=some (k,i,u,v,s):=rfl
   simp only [hO,Option.bind_some]
   have hW:=wf_conv hw
   have hR:=wf_convR hwt
   have m1:(t.map convR).length≤1048576:=by rw [List.length_map];exact n1
   have m2:(l.map conv).length≤1048576:=by rw [List.length_map];exact n2
   have hS:=scdo_f a b (t.map convR) (l.map conv) c d k i u v s hW hR hb hc hk hi hu hv hs (by omega) (by omega)
   have hI:=icdo_f a b (t.map convR) (l.map conv) c d k i u v s hW hk hi hu hv hs (by omega) (by omega)
   have hlen:=cdo_len a b (t.map convR) (l.map conv) c d k i u v s
   generalize cdoV a b (t.map convR) (l.map conv) c d k i u v s=x at *
   obtain ⟨x1,x2,x3,x4,x5,x6,x7⟩:=x
   simp only at hlen
   obtain ⟨g1,g2⟩:=hlen
   have he1:=eqCli_f x1 x2 x5 x6 x3 x4 (by omega) (by omega)
   have he2:=eqCli_f a b c d (t.map convR) (l.map conv) (by omega) (by omega)
   have hm1:=markCli_f x1 x2 x3 x4 x5 x6 (by omega) (by omega)
   have hm2:=markCli_f a b (t.map convR) (l.map conv) c d (by omega) (by omega)
   have hh:=heldCli_f x1 x2 x3.length x4.length x5 x6 (by omega) (by omega)
   have hn2:¬ ((1:Int)+3 * (x3.length:Int)+7 * (x4.length:Int) < 0):=by omega
   have hn3:¬ ((1:Int)+3 * ((t.map convR).length:Int)+7 * ((l.map conv).length:Int) < 0):=by omega
   refine Ev.bind hT (Ev.bind hS (Ev.bind hT (Ev.bind hI (Ev.bind he1 (ev_pos rfl (ev_neg (by simp) ?_))))))
   refine Ev.bind hT (Ev.bind he2 (ev_pos rfl (Ev.bind hm2 (ev_neg hn3 (Ev.bind he1 (ev_pos rfl ?_))))))
   refine Ev.bind hm1 (Ev.bind hh (ev_neg hn2 (ev_pos rfl ?_)))
   refine Ev.bind hT (Ev.bind hI (Ev.bind he1 (ev_pos rfl (ev_neg (by simp) ?_))))
   exact Ev.bind hh (ev_neg hn2 (ev_pos rfl (evnow _)))
end Go.Proofs.YtdpklbomhdpimaaDoor.PL
namespace Go.Proofs.YtdpklbomhdpimaaDoor.PL
set_option maxRecDepth 100000
open Go.ChangeShapes Go.WideShapes Go.ChangeAt Go.RowKit Go.Deep Go.Joins Go.Proofs.YtdpklbomhdpimaaDoor.P Go.Proofs.YtdpklbomhdpimaaDoorW.PrintWords Go.Proofs.YtdpklbomhdpimaaDoorW.PrintLast
section
variable {H:Type} {enc:TypeId×Value→H} {w:World} {base:Nat} {sp:Nat→Bool} {held:Bool}
theorem open_opV {v:Value} {d:DataW H} {p:List MemPlace} (hv:Value.okWide Tryd.prog w .any base 34 v) (h:DataW.Trod enc Tryd.prog w 0 sp held 34 v d p) :
  ∃ (a b c e:Int) (s:ByteArray),v=.agg #[.int .i64 a,.int .i64 b,.int .i64 c,.int .i64 e,.string s]∧I64 a∧I64 b∧I64 c∧I64 e∧s.size≤9223372036854775807:=by
 obtain ⟨cs,rfl,hsz⟩:=okWide_struct Tryd.underlying34 hv
 obtain ⟨fuel,hf⟩:=h
 obtain ⟨a,b,c,e,s,he,h0,h1,h2,h3,h4⟩:=open_op hf
 refine ⟨a,b,c,e,s,?_,h0,h1,h2,h3,h4⟩
 have he':cs.toList=[.int .i64 a,.int .i64 b,.int .i64 c,.int .i64 e,.string s]:=he
 rw [show cs=cs.toList.toArray by simp,he']
end
end Go.Proofs.YtdpklbomhdpimaaDoor.PL
namespace Go.Proofs.YtdpklbomhdpimaaDoor.fnExactClientDo
open Go.ChangeMaps (open_string shut_string)
open Go.ChangeShapes Go.WideShapes Go.ChangeAt Go.RowKit
theorem own:ownKnob Tryd.prog.godebug=none:=by kernel_rfl
theorem laidOut:laidOutB Tryd.prog=true:=by kernel_rfl
theorem lifted (os:Os) (started:os.Started) (H:Type) (enc:TypeId×Value→H) :
  ReturnsInHanded {} Tryd.checked os 14 .any (fun w args=>(Rows.fnExactClientDoSpec.pre enc Tryd.prog Tryd.f14 [] false w args∧laidMet Tryd.prog [("loop.example/plashet/impl.rowOwners",Rows.laid_loop_example_plashet_impl_rowOwners)] w)∧sizedMet enc Tryd.prog Tryd.f14 (OpenSpec.ofChange Rows.fnExactClientDoSpec) false w args) (Rows.fnExactClientDoSpec.post enc Tryd.prog Tryd.f14 false true false false):=by
 refine returnsInHanded_of_change_and (C:=Tryd.checked) (X:=fun w _=>laidMet Tryd.prog [("loop.example/plashet/impl.rowOwners",Rows.laid_loop_example_plashet_impl_rowOwners)] w) (fun _ _ _ hh h=>h.of_heap hh) own started (by kernel_rfl) Tryd.func14
  (ChangeSpec.witness_shaped (enc:=enc) (C:=Tryd.checked) (os:=os) (X:=fun w _=>laidMet Tryd.prog [("loop.example/plashet/impl.rowOwners",Rows.laid_loop_example_plashet_impl_rowOwners)] w) false (World.doorLaid Tryd.prog 400 os) #[.agg #[.int .i64 0,.int .i64 0,.slice none 0 0,.slice none 0 0,.int .i64 0,.int .i64 0],.agg #[.int .i64 0,.int .i64 0,.int .i64 0,.int .i64 0,.string ⟨#[]⟩]] 8 rfl (World.shaped_of_RefB (by kernel_rfl) (by kernel_rfl)) (by kernel_rfl) (by kernel_rfl) (by kernel_rfl) (P.door_met os _)) ?_
 intro W base args ds gs before hval0 hW _ _ hL _
 have hval:∀ (j:Nat) t v,Tryd.f14.params[j]?=some t→args[j]?=some v→Value.okWide Tryd.prog W .any base t v:=hval0
 have hW':=hW
 obtain ⟨p,q,hA0,hV,rfl,hfz,hnd⟩:=hW
 have hA:DataW.TrodAll enc Tryd.prog W 0 (fun _=>true) true Tryd.f14.params.toList args.toList ds p:=hA0
 rw [Tryd.params14] at hA hval
 obtain ⟨v0,vs0,d0,ds0,p0,q0,hargs,rfl,rfl,h0,r0⟩:=trodAll_cons hA
 obtain ⟨v1,vs1,d1,ds1,p1,q1,rfl,rfl,rfl,h1,r1⟩:=trodAll_cons r0
 obtain ⟨rfl,rfl,rfl⟩:=trodAll_nil r1
 obtain rfl:args=#[v0,v1]:=by cases args;simp_all
 have hG:P.Glob W:=P.glob_of_laid hL
 obtain ⟨gv,tv,csv,fuelv,dv,pv,rfl,hgv,htv,hvarv,hdv,rfl⟩:=trodVars_one hV
 obtain rfl:csv=P.ownCells:=Option.some.inj (hvarv.symm.trans hG)
 obtain rfl:=Option.some.inj (P.tOwners.symm.trans (by rw [Option.some.inj (P.gOwners.symm.trans hgv)];exact htv))
 obtain ⟨rfl,rfl⟩:=DataW.Trod.unique (v:=.agg P.ownCells) ⟨fuelv,hdv⟩ ⟨3,P.reads_table enc W _⟩
 have k0:=h0
 have lt0:∀ x∈p0,x.block < W.heap.size:=by obtain ⟨m,hm⟩:=k0;exact DataW.trod_lt m _ _ _ hm
 obtain ⟨a0,b0,A0,c0,t0,B0,e0,l0,m0,n0,rfl,wa0,wb0,wm0,wn0,⟨hC0,hc0,hT0,hx0⟩,hD0,hd0,hL0,hw0⟩:=PL.open_clientV (hval 0 85 v0 rfl rfl) h0
 have k1:=h1
 have lt1:∀ x∈p1,x.block < W.heap.size:=by obtain ⟨m,hm⟩:=k1;exact DataW.trod_lt m _ _ _ hm
 obtain ⟨a1,b1,m1,n1,s1,rfl,wa1,wb1,wm1,wn1,ws1⟩:=PL.open_opV (hval 1 34 v1 rfl rfl) h1
 clear hA0 hval0
 obtain ⟨k,hk⟩:=PL.FnExactClientDo a0 b0 t0 l0 m0 n0 a1 b1 m1 n1 s1 hx0 hT0 hw0 hL0 wa0 wb0 wm0 wn0 wa1 wb1 wm1 wn1 ws1
 refine (P.laws_FnExactClientDo.calls k a0 b0 _ _ t0 _ _ l0 m0 n0 a1 b1 m1 n1 s1 true W hC0 hc0 hD0 hd0 hk hG).mono fun e W' ⟨he,bel⟩=>?_
 subst he
 exact ⟨_,rfl,_,_,_,_,_,_,hW',trodAll_mk1 (shut_bool Tryd.underlying4 _),(trodAll_cons_mk (Below.trod laidOut (by kernel_rfl) (of_decide_eq_true (by kernel_rfl)) k0 bel lt0) (trodAll_cons_mk (Below.trod laidOut (by kernel_rfl) (of_decide_eq_true (by kernel_rfl)) k1 bel lt1) trodAll_mk0)),P.tab_vars enc (hG.below bel),bel.frame _,fun h=>by cases h⟩
theorem proved:Rows.FnExactClientDoSaid :=
 OpenClaim.holds_of_wide 14 Tryd.f14 rfl rfl rfl rfl rfl rfl rfl ⟨rfl,rfl,rfl,rfl,rfl⟩ rfl rfl rfl rfl rfl (by kernel_rfl) Tryd.func14 (by kernel_rfl)
  (of_decide_eq_true (by kernel_rfl)) (by unfold Func.isWrapper;first|(rw [if_pos (by decide +kernel)];kernel_rfl)|(rw [if_neg (by decide +kernel)];exact ⟨rfl,rfl⟩))
  (fun os started H enc _=>lifted os started H enc)
end Go.Proofs.YtdpklbomhdpimaaDoor.fnExactClientDo
namespace Go.Proofs.YtdpklbomhdpimaaDoor
theorem fnExactClientDo_holds:Rows.FnExactClientDoSaid:=fnExactClientDo.proved
end Go.Proofs.YtdpklbomhdpimaaDoor
namespace Go.Proofs.YtdpklbomhdpimaaDoor
open Go
theorem fnExactClientDoCard_holds:Rows.FnExactClientDoCardSaid :=
 Claim7.holds_tied_plain_at .later [] [.data] true (true, "7cf51d42195f9c9b62136c7a8c7100de8c719db44b2d768f6f24e257b781f613") true
  fnExactClientDo_holds (fun _ h=>by cases h) (by kernel_rfl) (fun _ h=>by cases h) fnExactClientDo_row_tie rfl ⟨rfl,rfl⟩ (by kernel_rfl) rfl
  (fun f fn hf hfn=>by
   obtain rfl:f=14:=Option.some.inj ((show Tryd.prog.funcNamed "loop.example/plashet/laws.FnExactClientDo" = some 14 by kernel_rfl).symm.trans hf) |>.symm
   obtain rfl:fn=Tryd.f14:=(Option.some.inj (Tryd.func14.symm.trans hfn)).symm
   exact ⟨by kernel_rfl,fun j t ht=>by
    rw [Tryd.params14] at ht
    have hm:t∈[34,85]:=by have:=Array.mem_of_getElem? ht;simp at this;first|(subst this;simp;done)|(rcases this with h|h <;> simp [h];done)|(rcases this with h|h|h <;> simp [h];done)
    have hall:([34,85].all fun u=>!Tryd.prog.wantsStandIn u)=true:=by kernel_rfl
    exact (show Tryd.prog.wantsStandIn t=false by simpa using List.all_eq_true.1 hall t hm)⟩)
  (by kernel_rfl)
#print axioms fnExactClientDoCard_holds
end Go.Proofs.YtdpklbomhdpimaaDoor
