/- Joined by a program (wip/shake.py): the declarations that 'YtdpklbomhdpimaaDoorCardFnClientNew' reaches. -/
import Derived.Test.YtdpklbomhdpimaaDoorZLt2
set_option linter.unusedVariables false
set_option linter.unusedSimpArgs false
set_option linter.unusedSectionVars false
set_option maxHeartbeats 8000000
set_option maxRecDepth 100000
namespace Go.Proofs.YtdpklbomhdpimaaDoor.PL
open Go.RowKit Go.Proofs.YtdpklbomhdpimaaDoor.P Go.Proofs.YtdpklbomhdpimaaDoorW.PrintWords Go.Proofs.YtdpklbomhdpimaaDoorW.PrintLast
def wfE (e:S44):Prop:=I64 e.f0∧I64 e.f1∧I64 e.f2.f0∧I64 e.f2.f1∧I64 e.f2.f2∧I64 e.f2.f3∧e.f2.f4.size≤9223372036854775807
def entB (e:S44):Bool :=
 decide (1≤e.f0)&&decide (e.f0≤3)&&(decide (1≤e.f1)&&decide (e.f1≤40))&&opB e.f2.f0 e.f2.f1 e.f2.f2 e.f2.f3 e.f2.f4&&(decide (e.f2.f0≠1) || decide (ownI e.f2.f1 - 1=e.f0))
theorem ent_f (e:S44) (h:wfE e):Ev (fun n=>impl_EntryOk.f n e.f0 e.f1 e.f2.f0 e.f2.f1 e.f2.f2 e.f2.f3 e.f2.f4) (entB e):=by
 obtain ⟨h0,h1,h2,h3,h4,h5,h6⟩:=h
 unfold impl_EntryOk.f impl_whoOk.f entB
 by_cases a1:e.f0≥1
 ·simp only [a1,if_true,Option.bind_some,ge_iff_le,decide_true,Bool.true_and]
  cases a2:decide (e.f0≤3) with
  | false=>simp only [Bool.false_eq_true,if_false,Bool.false_and];exact evnow _
  | true =>
   simp only [if_true,Bool.true_and]
   by_cases a3:e.f1 < 1
   ·have:decide (1≤e.f1)=false:=df_ (by omega)
    simp only [a3,if_true,this,Bool.false_and];exact evnow _
   ·have e3:decide (1≤e.f1)=true:=dt_ (by omega)
    by_cases a4:e.f1 > 40
    ·have:decide (e.f1≤40)=false:=df_ (by omega)
     simp only [a3,if_false,a4,if_true,this,Bool.and_false,Bool.false_and];exact evnow _
    ·have e4:decide (e.f1≤40)=true:=dt_ (by omega)
     simp only [a3,if_false,a4,e3,e4,Bool.true_and]
     refine Ev.bind (opOk_f _ _ _ _ _ h6) ?_
     cases ho:opB e.f2.f0 e.f2.f1 e.f2.f2 e.f2.f3 e.f2.f4 with
     | false=>simp only [Bool.false_eq_true,if_false,Bool.false_and];exact evnow _
     | true =>
      simp only [if_true,Bool.true_and]
      have hm:=opB_made _ _ _ _ _ ho
      unfold impl_RowWho.f
      have hn:ownI e.f2.f1≠0:=by
       intro hz
       unfold madeB at hm
       rw [hz] at hm
       simp at hm
      rw [if_neg hn]
      simp only [Option.bind_some]
      by_cases a5:e.f2.f0=1
      ·simp only [a5,if_true,ne_eq,not_true,decide_false,Bool.false_or]
       have:(ownI e.f2.f1 - 1==e.f0)=decide (ownI e.f2.f1 - 1=e.f0):=by by_cases hq:ownI e.f2.f1 - 1=e.f0 <;> simp [hq]
       rw [this];exact evnow _
      ·simp only [a5,if_false,ne_eq,not_false_eq_true,decide_true,Bool.true_or];exact evnow _
 ·have:decide (1≤e.f0)=false:=df_ (by omega)
  simp only [a1,if_false,Option.bind_some,Bool.false_eq_true,this,Bool.false_and];exact evnow _
def wfL (l:List S44):Prop:=∀ e∈l,wfE e
theorem rdE_get (l:List S44) (i:Nat) (h:i < l.length):rd_T44 l i=l[i]:=by
 unfold rd_T44
 rw [List.getD_eq_getElem?_getD,show ((i:Int)).toNat=i from rfl,List.getElem?_eq_getElem h]
 rfl
def Bytes (b:List Int):Prop:=b.length≤2000∧∀ x∈b,0≤x∧x≤255
def Rd (p:Int) (m:Nat):Prop:=0≤p∧p+m≤1000000
theorem wrap_id (x:Int) (h0:-9223372036854775808≤x) (h1:x≤9223372036854775807):wrap64 x=x:=by unfold wrap64;omega
theorem wraps_i64 (n:Int) (h0:0≤n) (h1:n < 2 ^ 62):IntKind.i64.wrap n=n:=by rw [IntKind.wrap_i64];omega
theorem xor_pos (a b:Int) (ha:0≤a) (hb:0≤b) (ha':a < 4611686018427387904) (hb':b < 4611686018427387904):0≤Go.bits .xor .i64 a b:=by
 obtain ⟨m,rfl⟩:∃ m:Nat,a=m:=⟨a.toNat,by omega⟩
 obtain ⟨n,rfl⟩:∃ n:Nat,b=n:=⟨b.toNat,by omega⟩
 have hm:m < 2 ^ 62:=by omega
 have hn:n < 2 ^ 62:=by omega
 have e1:m % 2 ^ 64=m:=Nat.mod_eq_of_lt (by omega)
 have e2:n % 2 ^ 64=n:=Nat.mod_eq_of_lt (by omega)
 have hx:m ^^^ n < 2 ^ 62:=Nat.xor_lt_two_pow hm hn
 have hq:(BitVec.ofNat 64 m ^^^ BitVec.ofNat 64 n).toNat=m ^^^ n:=by rw [BitVec.toNat_xor,BitVec.toNat_ofNat,BitVec.toNat_ofNat,e1,e2]
 have h2:Go.bits .xor .i64 (m:Int) (n:Int)=IntKind.i64.wrap (((BitVec.ofNat 64 m ^^^ BitVec.ofNat 64 n).toNat:Nat):Int):=by simp only [Go.bits,BitVec.ofInt_natCast];rfl
 rw [h2,hq,wraps_i64 _ (by omega) (by omega)]
 omega
theorem rd_byte {b:List Int} (hb:Bytes b) (i:Int):0≤rd b i∧rd b i≤255:=by
 unfold rd
 rw [List.getD_eq_getElem?_getD]
 rcases Nat.lt_or_ge i.toNat b.length with h|h
 ·rw [List.getElem?_eq_getElem h]
  exact hb.2 _ (List.getElem_mem h)
 ·rw [List.getElem?_eq_none h]
  simp
theorem tmod_range (x n:Int) (hx:0≤x) (hn:1≤n):0≤Int.tmod x n∧Int.tmod x n < n:=by
 rw [Int.tmod_eq_emod_of_nonneg hx]
 exact ⟨Int.emod_nonneg _ (by omega),Int.emod_lt_of_pos _ (by omega)⟩
theorem pick_f (b:List Int) (p n:Int) (m:Nat) (hb:Bytes b) (hp:Rd p (m+1)):∃ r:Int,Ev (fun k=>spec_l6Rd_pick.f k b p n) (r,p+1)∧Rd (p+1) m∧0≤r∧(1≤n→r < n)∧(n < 1→r=0):=by
 obtain ⟨h0,h1⟩:=hp
 have hR:Rd (p+1) m:=⟨by omega,by omega⟩
 have w1:wrap64 (p+1)=p+1:=wrap_id _ (by omega) (by omega)
 have w2:wrap64 (p+1 - 1)=p:=by rw [wrap_id (p+1 - 1) (by omega) (by omega)];omega
 unfold spec_l6Rd_pick.f
 rw [w1]
 by_cases hn:n < 1
 ·refine ⟨0,ev_pos hn ?_,hR,Int.le_refl _,fun h=>by omega,fun _=>rfl⟩
  refine Ev.step (f:=fun _=>some (0,p+1)) (fun k=>?_) (evnow _)
  simp only [spec_l6Rd_pick.j0,if_true]
 ·by_cases hl:b.length=0
  ·refine ⟨0,ev_neg hn ?_,hR,Int.le_refl _,fun h=>by omega,fun _=>rfl⟩
   refine Ev.step (f:=fun _=>some (0,p+1)) (fun k=>?_) (evnow _)
   have:((b.length:Int)==0)=true:=by simp [hl]
   simp only [spec_l6Rd_pick.j0,this,if_true]
  ·have hf:((b.length:Int)==0)=false:=beq_eq_false_iff_ne.2 (by omega)
   by_cases hk:p < (b.length:Int)
   ·have hx:=rd_byte hb p
    have hr:=tmod_range (wrap64 (rd b p)) n (by rw [wrap_id (rd b p) (by omega) (by omega)];omega) (by omega)
    refine ⟨Int.tmod (wrap64 (rd b p)) n,ev_neg hn ?_,hR,hr.1,fun _=>hr.2,fun h=>absurd h hn⟩
    refine Ev.step (f:=fun _=>some (Int.tmod (wrap64 (rd b p)) n,p+1)) (fun k=>?_) (evnow _)
    simp only [spec_l6Rd_pick.j0,hf,Bool.false_eq_true,if_false,w2]
    rw [if_pos hk,if_pos h0,if_neg (show ¬ n=0 by omega)]
   ·have hlen:(1:Int)≤b.length:=by omega
    have m1:=tmod_range p b.length h0 hlen
    have e7:wrap64 (p * 7)=p * 7:=wrap_id _ (by omega) (by omega)
    have e73:wrap64 (p * 7+3)=p * 7+3:=wrap_id _ (by omega) (by omega)
    have m2:=tmod_range (p * 7+3) b.length (by omega) hlen
    have x1:=rd_byte hb (Int.tmod p b.length)
    have x2:=rd_byte hb (Int.tmod (p * 7+3) b.length)
    have d1:0≤Int.tdiv p b.length∧Int.tdiv p b.length≤1000000:=by
     rw [Int.tdiv_eq_ediv_of_nonneg h0]
     exact ⟨Int.ediv_nonneg h0 (by omega),Int.le_trans (Int.ediv_le_self _ h0) (by omega)⟩
    obtain ⟨r,hr⟩:∃ r,r=Int.tmod (Go.bits .xor .i64 (wrap64 ((wrap64 ((wrap64 ((wrap64 ((wrap64 (rd b (Int.tmod p (b.length:Int)))) * 131))+(wrap64 ((wrap64 (rd b (Int.tmod (p * 7+3) (b.length:Int)))) * 1117))))+(wrap64 (p * 29))))+(wrap64 ((wrap64 (Int.tdiv p (b.length:Int))) * 53)))) (wrap64 (Int.tdiv (wrap64 ((wrap64 ((wrap64 ((wrap64 ((wrap64 (rd b (Int.tmod p (b.length:Int)))) * 131))+(wrap64 ((wrap64 (rd b (Int.tmod (p * 7+3) (b.length:Int)))) * 1117))))+(wrap64 (p * 29))))+(wrap64 ((wrap64 (Int.tdiv p (b.length:Int))) * 53)))) 64))) n:=⟨_,rfl⟩
    have hrr:0≤r∧r < n:=by
     rw [hr]
     refine tmod_range _ n ?_ (by omega)
     generalize rd b (Int.tmod p (b.length:Int))=u at x1
     generalize rd b (Int.tmod (p * 7+3) (b.length:Int))=v at x2
     generalize Int.tdiv p (b.length:Int)=d at d1
     rw [wrap_id u (by omega) (by omega),wrap_id v (by omega) (by omega),wrap_id d (by omega) (by omega)]
     rw [wrap_id (u * 131) (by omega) (by omega),wrap_id (v * 1117) (by omega) (by omega),wrap_id (p * 29) (by omega) (by omega),wrap_id (d * 53) (by omega) (by omega)]
     rw [wrap_id (u * 131+v * 1117) (by omega) (by omega)]
     rw [wrap_id (u * 131+v * 1117+p * 29) (by omega) (by omega)]
     rw [wrap_id (u * 131+v * 1117+p * 29+d * 53) (by omega) (by omega)]
     have hs:Int.tdiv (u * 131+v * 1117+p * 29+d * 53) 64=(u * 131+v * 1117+p * 29+d * 53) / 64:=Int.tdiv_eq_ediv_of_nonneg (by omega)
     rw [hs,wrap_id _ (by omega) (by omega)]
     exact xor_pos _ _ (by omega) (by omega) (by omega) (by omega)
    refine ⟨r,ev_neg hn ?_,hR,hrr.1,fun _=>hrr.2,fun h=>absurd h hn⟩
    refine Ev.step (f:=fun _=>some (r,p+1)) (fun k=>?_) (evnow _)
    simp only [spec_l6Rd_pick.j0,hf,Bool.false_eq_true,if_false,w2,e7,e73]
    rw [if_neg hk,if_neg (show ¬ (b.length:Int)=0 by omega),if_pos m1.1,if_pos m1.2,if_pos m2.1,if_pos m2.2,if_neg (show ¬ n=0 by omega),hr]
theorem open_f (code:List Int) (h:∀ x∈code,0≤x∧x≤255):∃ b:List Int,spec_l6Open.f code=some (b,0)∧Bytes b:=by
 unfold spec_l6Open.f
 by_cases hl:(code.length:Int) > 2000
 ·refine ⟨code.take 2000,by rw [if_pos hl,if_pos (by omega)],by rw [List.length_take];omega,fun x hx=>h x (List.mem_of_mem_take hx)⟩
 ·exact ⟨code,by rw [if_neg hl],by omega,h⟩
theorem byte_of {x:Int} (h:(Lit.int .u8 x).wf=true):0≤x∧x≤255:=by
 simp only [Lit.wf,Bool.and_eq_true,decide_eq_true_eq] at h
 exact ⟨h.1,h.2⟩
end Go.Proofs.YtdpklbomhdpimaaDoor.PL
namespace Go.Proofs.YtdpklbomhdpimaaDoor.FP
open Go.Proofs.YtdpklbomhdpimaaDoor.P
def dep (x:Nat) (d:Nat):Fo→Nat
 | .nil=>d
 | .nd j _ k n=>if j=x then d else if x∈k.ids then dep x (d+1) k else dep x d n
end Go.Proofs.YtdpklbomhdpimaaDoor.FP
namespace Go.Proofs.YtdpklbomhdpimaaDoor.PL
open Go.RowKit Go.Proofs.YtdpklbomhdpimaaDoor.P Go.Proofs.YtdpklbomhdpimaaDoorW.PrintWords Go.Proofs.YtdpklbomhdpimaaDoorW.PrintLast Go.Proofs.YtdpklbomhdpimaaDoor.FP
def new3:List S69:=[⟨1,0,⟨#[]⟩⟩,⟨2,0,⟨#[]⟩⟩,⟨3,0,⟨#[]⟩⟩]
theorem new3_val:treeB new3=true:=by decide +kernel
theorem lpR_l0 (l:List S69) (hl:l.length≤1099511627776):∀ (n i:Nat),i+n=l.length→Ev (fun k=>laws_lpRows.l0 k l l i) true
 | 0,i,h=>by
  refine Ev.step (f:=fun _=>some true) (fun k=>?_) (evnow _)
  simp only [laws_lpRows.l0];rw [if_neg (by omega)]
 | n+1,i,h=>by
  refine Ev.step (fun k=>?_) (lpR_l0 l hl n (i+1) (by omega))
  simp only [laws_lpRows.l0]
  rw [if_pos (by omega),if_pos (by omega),if_pos (by omega)]
  simp only [BEq.rfl,Bool.not_true,Bool.or_false,Bool.false_eq_true,if_false]
  rw [wrapS i (by omega) (by omega)]
  rfl
theorem lpR_f (l:List S69) (hl:l.length≤1099511627776):Ev (fun k=>laws_lpRows.f k l l) true:=by
 unfold laws_lpRows.f
 exact ev_pos rfl (lpR_l0 l hl l.length 0 (by omega))
theorem pure_of {f:Nat→Option Bool} (h:Ev f true):∃ k,f k=some true:=by
 obtain ⟨K,hK⟩:=h
 exact ⟨K,hK K (Nat.le_refl K)⟩
end Go.Proofs.YtdpklbomhdpimaaDoor.PL
namespace Go.Proofs.YtdpklbomhdpimaaDoor.PL
open Go.RowKit Go.Proofs.YtdpklbomhdpimaaDoor.P Go.Proofs.YtdpklbomhdpimaaDoorW.PrintWords Go.Proofs.YtdpklbomhdpimaaDoorW.PrintLast
theorem lp_l0 (l:List S44) (hl:l.length≤1099511627776):∀ (n i:Nat),i+n=l.length→Ev (fun k=>laws_lpLog.l0 k l l i) true
 | 0,i,h=>by
  refine Ev.step (f:=fun _=>some true) (fun k=>?_) (evnow _)
  simp only [laws_lpLog.l0];rw [if_neg (by omega)]
 | n+1,i,h=>by
  refine Ev.step (fun k=>?_) (lp_l0 l hl n (i+1) (by omega))
  simp only [laws_lpLog.l0]
  rw [if_pos (by omega),if_pos (by omega),if_pos (by omega)]
  simp only [BEq.rfl,Bool.not_true,Bool.or_false,Bool.false_eq_true,if_false]
  rw [wrapS i (by omega) (by omega)]
  rfl
theorem lp_f (l:List S44) (hl:l.length≤1099511627776):Ev (fun k=>laws_lpLog.f k l l) true:=by
 unfold laws_lpLog.f
 exact ev_pos rfl (lp_l0 l hl l.length 0 (by omega))
def waitGo (who done made:Int):Nat→List S44→Bool
 | _,[]=>true
 | i,e::l=>entB e&&(decide (e.f0=who)&&(decide (e.f1=done+i+1)&&((decide (e.f2.f0≠1) || decide (e.f2.f1≤10 * who+made))&&waitGo who done made (i+1) l)))
def cliB (who seen:Int) (b:List S69) (w:List S44) (done made:Int):Bool :=
 (decide (1≤who)&&decide (who≤3))&&((decide (0≤seen)&&decide (seen≤40))&&(treeB b&&((decide (0≤done)&&decide (done≤seen))&&(decide (done+w.length≤40)&&((decide (0≤made)&&decide (made≤6))&&waitGo who done made 0 w)))))
section
variable (who seen done made:Int) (b:List S69) (w:List S44)
theorem icli_j3 (h1:1≤who∧who≤3) (hm:0≤made∧made≤6) (len:Int) (i:Nat) (hi:i≤1000) (e:S44) (R:Bool) (h:Ev (fun k=>impl_ClientOk.l0 k w len ((i+1:Nat):Int) who seen b w done made) R) (f:Bool) :
  Ev (fun k=>impl_ClientOk.j3 k w len i f who seen b w done made e.f0 e.f1 e.f2.f0 e.f2.f1 e.f2.f2 e.f2.f3 e.f2.f4) (!f&&((decide (e.f2.f0≠1) || decide (e.f2.f1≤10 * who+made))&&R)):=by
 refine Ev.step (fun k=>by simp only [impl_ClientOk.j3];rfl) ?_
 cases f with
 | true=>exact ev_pos rfl (evnow _)
 | false =>
  have w1:wrap64 (wrap64 (10 * who)+made)=10 * who+made:=by rw [wrap_id (10 * who) (by omega) (by omega),wrap_id _ (by omega) (by omega)]
  have w2:wrap64 ((i:Int)+1)=((i+1:Nat):Int):=wrap_id _ (by omega) (by omega)
  refine ev_neg (by decide) ?_
  rw [w1,w2]
  by_cases a:e.f2.f0=1
  ·refine ev_pos a ?_
   by_cases g:e.f2.f1 > 10 * who+made
   ·have z:(!false&&((decide (e.f2.f0≠1) || decide (e.f2.f1≤10 * who+made))&&R))=false:=by simp [a];intro;omega
    rw [z]
    exact ev_pos g (evnow _)
   ·have z:(!false&&((decide (e.f2.f0≠1) || decide (e.f2.f1≤10 * who+made))&&R))=R:=by rw [dt_ (show e.f2.f1≤10 * who+made by omega)];simp
    rw [z]
    exact ev_neg g h
  ·have z:(!false&&((decide (e.f2.f0≠1) || decide (e.f2.f1≤10 * who+made))&&R))=R:=by simp [a]
   rw [z]
   exact ev_neg a h
theorem icli_l0 (hw:wfL w) (h1:1≤who∧who≤3) (hd:0≤done∧done≤40) (hm:0≤made∧made≤6) (hl:w.length≤1000):∀ n i:Nat,i+n=w.length→Ev (fun k=>impl_ClientOk.l0 k w (w.length:Int) i who seen b w done made) (waitGo who done made i (w.drop i))
 | 0,i,h=>by
  rw [List.drop_eq_nil_of_le (by omega)]
  refine Ev.step (f:=fun _=>some true) (fun k=>?_) (evnow _)
  simp only [impl_ClientOk.l0];rw [if_neg (by omega)]
 | n+1,i,h=>by
  have hi:i < w.length:=by omega
  rw [List.drop_eq_getElem_cons hi]
  have J:=icli_j3 who seen done made b w h1 hm (w.length:Int) i (by omega) w[i] _ (icli_l0 hw h1 hd hm hl n (i+1) (by omega))
  have ws:wrap64 (wrap64 (done+(i:Int))+1)=done+i+1:=by rw [wrap_id (done+i) (by omega) (by omega),wrap_id _ (by omega) (by omega)]
  refine Ev.step (f:=fun k=>(impl_EntryOk.f k w[i].f0 w[i].f1 w[i].f2.f0 w[i].f2.f1 w[i].f2.f2 w[i].f2.f3 w[i].f2.f4).bind fun t=>if t=true then (if w[i].f0=who then impl_ClientOk.j3 k w (w.length:Int) i (w[i].f1 != done+i+1) who seen b w done made w[i].f0 w[i].f1 w[i].f2.f0 w[i].f2.f1 w[i].f2.f2 w[i].f2.f3 w[i].f2.f4 else impl_ClientOk.j3 k w (w.length:Int) i true who seen b w done made w[i].f0 w[i].f1 w[i].f2.f0 w[i].f2.f1 w[i].f2.f2 w[i].f2.f3 w[i].f2.f4) else impl_ClientOk.j3 k w (w.length:Int) i true who seen b w done made w[i].f0 w[i].f1 w[i].f2.f0 w[i].f2.f1 w[i].f2.f2 w[i].f2.f3 w[i].f2.f4) (fun k=>?_) ?_
  ·simp only [impl_ClientOk.l0]
   rw [if_pos (by omega),if_pos (by omega),if_pos (by omega),rdE_get w i hi,ws]
  ·refine Ev.bind (ent_f _ (hw _ (List.getElem_mem hi))) ?_
   unfold waitGo
   cases entB w[i] with
   | false=>exact ev_neg (by decide) (J true)
   | true =>
    refine ev_pos rfl ?_
    by_cases a:w[i].f0=who
    ·refine ev_pos a ?_
     have q:=J (w[i].f1 != done+i+1)
     have z:(!(w[i].f1 != done+i+1))=decide (w[i].f1=done+i+1):=by by_cases hq:w[i].f1=done+i+1 <;> simp [hq]
     rw [z] at q
     rw [dt_ a,Bool.true_and,Bool.true_and]
     exact q
    ·rw [df_ a]
     exact ev_neg a (J true)
theorem icli_f (hw:wfL w) (hl:w.length≤1099511627776):Ev (fun k=>impl_ClientOk.f k who seen b w done made) (cliB who seen b w done made):=by
 have j0t:Ev (fun k=>impl_ClientOk.j0 k true who seen b w done made) false:=Ev.step (f:=fun _=>some false) (fun k=>by simp only [impl_ClientOk.j0];rfl) (evnow _)
 have j1t:Ev (fun k=>impl_ClientOk.j1 k true who seen b w done made) false:=Ev.step (f:=fun _=>some false) (fun k=>by simp only [impl_ClientOk.j1];rfl) (evnow _)
 unfold impl_ClientOk.f impl_whoOk.f cliB
 by_cases a1:who≥1
 ·rw [if_pos a1]
  simp only [Option.bind_some]
  rw [dt_ (show 1≤who from a1),Bool.true_and]
  by_cases a2:who≤3
  ·rw [dt_ a2,Bool.true_and]
   refine ev_pos rfl ?_
   by_cases a3:seen < 0
   ·rw [df_ (show ¬ 0≤seen by omega)]
    exact ev_pos a3 j0t
   ·rw [dt_ (show 0≤seen by omega),Bool.true_and]
    refine ev_neg a3 ?_
    by_cases a4:seen > 40
    ·rw [df_ (show ¬ seen≤40 by omega)]
     exact ev_pos a4 j0t
    ·rw [dt_ (show seen≤40 by omega),Bool.true_and]
     refine ev_neg a4 ?_
     unfold impl_TreeOk.f
     simp only [Option.bind_some]
     cases treeB b with
     | false=>exact j0t
     | true =>
      rw [Bool.true_and]
      refine Ev.step (fun k=>by simp only [impl_ClientOk.j0];rfl) ?_
      refine ev_neg (by decide) ?_
      by_cases a5:done < 0
      ·rw [df_ (show ¬ 0≤done by omega)]
       exact ev_pos a5 j1t
      ·rw [dt_ (show 0≤done by omega),Bool.true_and]
       refine ev_neg a5 ?_
       by_cases a6:done > seen
       ·rw [df_ (show ¬ done≤seen by omega)]
        exact ev_pos a6 j1t
       ·rw [dt_ (show done≤seen by omega),Bool.true_and]
        refine ev_neg a6 ?_
        rw [wrap_id (40 - done) (by omega) (by omega)]
        by_cases a7:(w.length:Int) > 40 - done
        ·rw [df_ (show ¬ done+w.length≤40 by omega)]
         exact ev_pos a7 j1t
        ·rw [dt_ (show done+w.length≤40 by omega),Bool.true_and]
         refine ev_neg a7 ?_
         by_cases a8:made < 0
         ·rw [df_ (show ¬ 0≤made by omega)]
          exact ev_pos a8 j1t
         ·rw [dt_ (show 0≤made by omega),Bool.true_and]
          refine ev_neg a8 ?_
          by_cases a9:made > 6
          ·rw [df_ (show ¬ made≤6 by omega),dt_ a9]
           exact j1t
          ·rw [dt_ (show made≤6 by omega),df_ a9,Bool.true_and]
           refine Ev.step (fun k=>by simp only [impl_ClientOk.j1];rfl) ?_
           exact ev_neg (by decide) (icli_l0 who seen done made b w hw ⟨by omega,by omega⟩ ⟨by omega,by omega⟩ ⟨by omega,by omega⟩ (by omega) w.length 0 (by omega))
  ·rw [df_ a2]
   exact ev_neg (by decide) j0t
 ·rw [if_neg a1]
  simp only [Option.bind_some]
  rw [df_ (show ¬ 1≤who by omega)]
  exact ev_neg (by decide) j0t
end
end Go.Proofs.YtdpklbomhdpimaaDoor.PL
namespace Go.Proofs.YtdpklbomhdpimaaDoor.PL
open Go.RowKit Go.Proofs.YtdpklbomhdpimaaDoor.P Go.Proofs.YtdpklbomhdpimaaDoorW.PrintWords Go.Proofs.YtdpklbomhdpimaaDoorW.PrintLast Go.Proofs.YtdpklbomhdpimaaDoor.FP
theorem icliNew (x:Int):impl_ClientNew.f x=some (if 1≤x∧x≤3 then (x,0,new3,([]:List S44),0,0,true) else (0,0,([]:List S69),([]:List S44),0,0,false)):=by
 unfold impl_ClientNew.f impl_whoOk.f impl_TreeNew.f
 by_cases h1:x≥1
 ·by_cases h3:x≤3
  ·rw [if_pos h1,if_pos ⟨h1,h3⟩];simp only [Option.bind_some,dt_ h3,if_true];rfl
  ·rw [if_pos h1,if_neg (fun h=>h3 h.2)];simp only [Option.bind_some,df_ h3,Bool.false_eq_true,if_false]
 ·rw [if_neg h1,if_neg (fun h=>h1 h.1)];simp only [Option.bind_some,Bool.false_eq_true,if_false]
theorem scliNew (x:Int):spec_ClientNew.f x=some (if 1≤x∧x≤3 then (x,0,new3,([]:List S44),0,0,true) else (0,0,([]:List S69),([]:List S44),0,0,false)):=by
 unfold spec_ClientNew.f spec_TreeNew.f
 rw [in_f]
 by_cases h1:1≤x
 ·by_cases h3:x≤3
  ·rw [if_pos ⟨h1,h3⟩];simp only [Option.bind_some,dt_ h1,dt_ h3,Bool.and_true,if_true];rfl
  ·rw [if_neg (fun h=>h3 h.2)];simp only [Option.bind_some,df_ h3,Bool.and_false,Bool.false_eq_true,if_false]
 ·rw [if_neg (fun h=>h1 h.1)];simp only [Option.bind_some,df_ h1,Bool.false_and,Bool.false_eq_true,if_false]
theorem lpCli_f (a b d e:Int) (t:List S69) (l:List S44) (ht:t.length≤1099511627776) (hl:l.length≤1099511627776):Ev (fun k=>laws_lpClient.f k a b t l d e a b t l d e) true:=by
 unfold laws_lpClient.f
 refine ev_pos rfl (ev_pos rfl (Ev.bind (lpR_f t ht) (ev_pos rfl (Ev.bind (lp_f l hl) (ev_pos rfl (ev_pos rfl ?_))))))
 rw [BEq.rfl]
 exact evnow _
theorem FnClientNew:laws_FnClientNew.Pure:=by
 intro l0 _ _ h0
 refine pure_of ?_
 unfold laws_FnClientNew.f
 by_cases h:(l0.length:Int) > 1048576
 ·exact ev_pos h (evnow _)
 ·obtain ⟨b,hb,hB⟩:=open_f l0 (fun x hx=>byte_of (h0 x hx))
  obtain ⟨x,hx,hX,x0,x1,_⟩:=pick_f b 0 5 3 hB ⟨by omega,by omega⟩
  have hd:Ev (fun k=>spec_DrawClientNew.f k l0) x:=by
   unfold spec_DrawClientNew.f
   rw [hb]
   simp only [Option.bind_some]
   exact Ev.bind hx (evnow _)
  refine ev_neg h (Ev.bind hd ?_)
  rw [scliNew,icliNew]
  simp only [Option.bind_some]
  by_cases hw:1≤x∧x≤3
  ·rw [if_pos hw]
   have hc:cliB x 0 new3 [] 0 0=true:=by
    unfold cliB waitGo
    rw [new3_val,dt_ hw.1,dt_ hw.2]
    rfl
   have hi:=icli_f x 0 0 0 new3 [] (fun e he=>by cases he) (by decide)
   rw [hc] at hi
   have hs:Ev (fun k=>impl_ClientShow.f k x 0 new3 [] 0 0) new3:=by
    unfold impl_ClientShow.f
    exact Ev.bind hi (ev_pos rfl (ev_pos rfl (ev_pos (by decide) (evnow _))))
   have hl:=lpCli_f x 0 0 0 new3 ([]:List S44) (by decide) (by decide)
   refine ev_neg (by simp) (Ev.bind hl (ev_pos rfl (ev_pos rfl (Ev.bind hi (ev_pos rfl (Ev.bind hs ?_))))))
   unfold impl_TreeNew.f
   simp only [Option.bind_some]
   refine Ev.bind (lpR_f new3 (by decide)) (ev_pos rfl (ev_pos rfl ?_))
   have w0:wrap64 0=0:=wrap_id 0 (by omega) (by omega)
   simp only [Int.add_zero,w0]
   exact evnow _
  ·rw [if_neg hw]
   have hl:=lpCli_f 0 0 0 0 ([]:List S69) ([]:List S44) (by decide) (by decide)
   refine ev_neg (by decide) (Ev.bind hl (ev_pos rfl (ev_neg (by decide) (ev_pos (by decide) (Ev.bind hl (ev_pos rfl ?_))))))
   by_cases h1:x≥1
   ·refine ev_pos h1 ?_
    rw [df_ (fun h3=>hw ⟨h1,h3⟩)]
    exact evnow _
   ·exact ev_neg h1 (evnow _)
end Go.Proofs.YtdpklbomhdpimaaDoor.PL
namespace Go.Proofs.YtdpklbomhdpimaaDoor.P
open Go.ChangeShapes Go.WideShapes Go.ChangeAt Go.RowKit
theorem tOwners:(Tryd.prog.globals[0]?).map (·.type)=some 126:=by kernel_rfl
theorem cOwners:Tryd.prog.cellsOf 126=37:=by kernel_rfl
theorem cInt:Tryd.prog.cellsOf 3=1:=by kernel_rfl
abbrev ownCells:Array Value:=(owners.map fun z=>Value.int .i64 z).toArray
theorem glob_of_laid {W:World} (h:laidMet Tryd.prog [("loop.example/plashet/impl.rowOwners",Rows.laid_loop_example_plashet_impl_rowOwners)] W):Glob W :=
 Lib.tabIs_of_head gOwners tOwners Tryd.underlying126 Tryd.underlying3 cInt cOwners h
theorem door_met (os:Os) (args:Array Value):laidMet Tryd.prog [("loop.example/plashet/impl.rowOwners",Rows.laid_loop_example_plashet_impl_rowOwners)] ((World.doorLaid Tryd.prog 400 os).forCall (fun _ _=>0) ⟨#[],args,[]⟩).memory :=
 laidMet_of_run' 8 (by kernel_rfl) (by kernel_rfl)
abbrev tableH {H:Type}:DataW H:=.agg (owners.map fun z=>.lit (.int .i64 z))
theorem reads_table {H:Type} (enc:TypeId×Value→H) (W:World) (sp:Nat→Bool):DataW.trod enc Tryd.prog W 0 sp true 3 126 ownCells.toList=some (tableH,[]):=by kernel_rfl
theorem tab_vars {H:Type} (enc:TypeId×Value→H) {W:World} (h:Glob W) {sp:Nat→Bool}:DataW.TrodVars enc Tryd.prog W sp ["loop.example/plashet/impl.rowOwners"] [tableH] (MemPlace.row ⟨0,0,none⟩ ownCells.size++[]++[]) :=
 ⟨0,126,ownCells,3,[],[],gOwners,tOwners,h,reads_table enc W sp,rfl,rfl⟩
end Go.Proofs.YtdpklbomhdpimaaDoor.P
namespace Go.Proofs.YtdpklbomhdpimaaDoor.fnClientNew
open Go.ChangeMaps (open_string shut_string)
open Go.ChangeShapes Go.WideShapes Go.ChangeAt Go.RowKit
theorem own:ownKnob Tryd.prog.godebug=none:=by kernel_rfl
theorem laidOut:laidOutB Tryd.prog=true:=by kernel_rfl
def IsRow (k:IntKind) (w:World) (a:Option Addr) (len cap:Nat) (zs:List Int):Prop :=
 (a=none∧len=0∧cap=0∧zs=[]) ∨
 ∃ x,a=some x∧len≤cap∧cap≤maxLen∧zs.length=cap∧(∀ i,i < zs.length→w.cell? (x.add i)=some (.int k (zs.getD i 0)))∧∀ n∈zs,(Lit.int k n).wf=true
theorem lifted (os:Os) (started:os.Started) (H:Type) (enc:TypeId×Value→H) :
  ReturnsInHanded {} Tryd.checked os 12 .any (fun w args=>(Rows.fnClientNewSpec.pre enc Tryd.prog Tryd.f12 [] false w args∧laidMet Tryd.prog [("loop.example/plashet/impl.rowOwners",Rows.laid_loop_example_plashet_impl_rowOwners)] w)∧sizedMet enc Tryd.prog Tryd.f12 (OpenSpec.ofChange Rows.fnClientNewSpec) false w args) (Rows.fnClientNewSpec.post enc Tryd.prog Tryd.f12 false true false false):=by
 refine returnsInHanded_of_change_and (C:=Tryd.checked) (X:=fun w _=>laidMet Tryd.prog [("loop.example/plashet/impl.rowOwners",Rows.laid_loop_example_plashet_impl_rowOwners)] w) (fun _ _ _ hh h=>h.of_heap hh) own started (by kernel_rfl) Tryd.func12
  (ChangeSpec.witness_shaped (enc:=enc) (C:=Tryd.checked) (os:=os) (X:=fun w _=>laidMet Tryd.prog [("loop.example/plashet/impl.rowOwners",Rows.laid_loop_example_plashet_impl_rowOwners)] w) false (World.doorLaid Tryd.prog 400 os) #[.slice none 0 0] 8 rfl (World.shaped_of_RefB (by kernel_rfl) (by kernel_rfl)) (by kernel_rfl) (by kernel_rfl) (by kernel_rfl) (P.door_met os _)) ?_
 intro W base args ds gs before hval0 hW _ hsz0 hL _
 have hsz:(DataW.weightsEach Tryd.prog (Tryd.f12.params.toList++Rows.fnClientNewSpec.plain.varTypes Tryd.prog) (ds++gs)).all (·≤reachBytes)=true:=hsz0
 have hval:∀ (j:Nat) t v,Tryd.f12.params[j]?=some t→args[j]?=some v→Value.okWide Tryd.prog W .any base t v:=hval0
 have hW':=hW
 obtain ⟨p,q,hA0,hV,rfl,hfz,hnd⟩:=hW
 have hA:DataW.TrodAll enc Tryd.prog W 0 (fun _=>true) true Tryd.f12.params.toList args.toList ds p:=hA0
 rw [Tryd.params12] at hA hval hsz
 obtain ⟨v0,vs0,d0,ds0,p0,q0,hargs,rfl,rfl,h0,r0⟩:=trodAll_cons hA
 obtain ⟨rfl,rfl,rfl⟩:=trodAll_nil r0
 obtain rfl:args=#[v0]:=by cases args;simp_all
 have hG:P.Glob W:=P.glob_of_laid hL
 obtain ⟨gv,tv,csv,fuelv,dv,pv,rfl,hgv,htv,hvarv,hdv,rfl⟩:=trodVars_one hV
 obtain rfl:csv=P.ownCells:=Option.some.inj (hvarv.symm.trans hG)
 obtain rfl:=Option.some.inj (P.tOwners.symm.trans (by rw [Option.some.inj (P.gOwners.symm.trans hgv)];exact htv))
 obtain ⟨rfl,rfl⟩:=DataW.Trod.unique (v:=.agg P.ownCells) ⟨fuelv,hdv⟩ ⟨3,P.reads_table enc W _⟩
 obtain ⟨a0,len0,cap0,rfl⟩:=okWide_slice Tryd.underlying22 (hval 0 22 v0 rfl rfl)
 have k0:=h0
 have lt0:∀ x∈p0,x.block < W.heap.size:=by obtain ⟨m,hm⟩:=k0;exact DataW.trod_lt m _ _ _ hm
 obtain ⟨z0,w0⟩:∃ zs,IsRow .u8 W a0 len0 cap0 zs:=by
  obtain ⟨fuel,hf⟩:=h0
  rcases open_ints Tryd.underlying22 Tryd.underlying5 (by kernel_rfl) hf with ⟨hcs,_⟩|⟨x,l,c,zs,hcs,_,hl,hm,hz,_,hcell,hwz⟩
  ·simp [Value.cells] at hcs
   obtain ⟨rfl,rfl,rfl⟩:=hcs
   exact ⟨[],.inl ⟨rfl,rfl,rfl,rfl⟩⟩
  ·simp [Value.cells] at hcs
   obtain ⟨rfl,rfl,rfl⟩:=hcs
   exact ⟨zs,.inr ⟨_,rfl,hl,hm,by simpa using hz,hcell,hwz⟩⟩
 have y0:len0 * 1≤140737488351232:=Go.Proofs.YtdpklbomhdpimaaDoorW.PrintWords.sized_ints hsz (j:=0) (t:=22) rfl rfl Tryd.underlying22 Tryd.underlying5 (by kernel_rfl) (by kernel_rfl) h0
 clear hA0 hval0 hsz0 hsz
 refine (P.laws_FnClientNew.walk PL.FnClientNew a0 len0 cap0 z0 W w0 y0 hG).mono fun e W' ⟨he,bel⟩=>?_
 subst he
 exact ⟨_,rfl,_,_,_,_,_,_,hW',trodAll_mk1 (shut_bool Tryd.underlying4 _),(trodAll_cons_mk (Below.trod laidOut (by kernel_rfl) (of_decide_eq_true (by kernel_rfl)) k0 bel lt0) trodAll_mk0),P.tab_vars enc (hG.below bel),bel.frame _,fun h=>by cases h⟩
theorem over:Rows.fnClientNewRow.holds Tryd.pinned (OpenSpec.ofChange Rows.fnClientNewSpec) :=
 OpenClaim.holds_of_wide 12 Tryd.f12 rfl rfl rfl rfl rfl rfl rfl ⟨rfl,rfl,rfl,rfl,rfl⟩ rfl rfl rfl rfl rfl (by kernel_rfl) Tryd.func12 (by kernel_rfl)
  (of_decide_eq_true (by kernel_rfl)) (by unfold Func.isWrapper;first|(rw [if_pos (by decide +kernel)];kernel_rfl)|(rw [if_neg (by decide +kernel)];exact ⟨rfl,rfl⟩))
  (fun os started H enc _=>lifted os started H enc)
theorem proved:Rows.FnClientNewSaid:=over
#print axioms proved
end Go.Proofs.YtdpklbomhdpimaaDoor.fnClientNew
namespace Go.Proofs.YtdpklbomhdpimaaDoor
theorem fnClientNew_holds:Rows.FnClientNewSaid:=fnClientNew.proved
end Go.Proofs.YtdpklbomhdpimaaDoor
namespace Go.Proofs.YtdpklbomhdpimaaDoor
open Go
theorem fnClientNewCard_holds:Rows.FnClientNewCardSaid :=
 Claim7.holds_tied_plain_at .later [] [.data] true (true, "7cf51d42195f9c9b62136c7a8c7100de8c719db44b2d768f6f24e257b781f613") true
  fnClientNew_holds (fun _ h=>by cases h) (by kernel_rfl) (fun _ h=>by cases h) fnClientNew_row_tie rfl ⟨rfl,rfl⟩ (by kernel_rfl) rfl
  (fun f fn hf hfn=>by
   obtain rfl:f=12:=Option.some.inj ((show Tryd.prog.funcNamed "loop.example/plashet/laws.FnClientNew" = some 12 by kernel_rfl).symm.trans hf) |>.symm
   obtain rfl:fn=Tryd.f12:=(Option.some.inj (Tryd.func12.symm.trans hfn)).symm
   exact ⟨by kernel_rfl,fun j t ht=>by
    rw [Tryd.params12] at ht
    have hm:t∈[22]:=by have:=Array.mem_of_getElem? ht;simp at this;first|(subst this;simp;done)|(rcases this with h|h <;> simp [h];done)|(rcases this with h|h|h <;> simp [h];done)
    have hall:([22].all fun u=>!Tryd.prog.wantsStandIn u)=true:=by kernel_rfl
    exact (show Tryd.prog.wantsStandIn t=false by simpa using List.all_eq_true.1 hall t hm)⟩)
  (by kernel_rfl)
#print axioms fnClientNewCard_holds
end Go.Proofs.YtdpklbomhdpimaaDoor
