/- Joined by a program (wip/shake.py): the declarations that 'YtdpklbomhdpimaaDoorCardFnExactServerHear' reaches. -/
import Derived.Test.YtdpklbomhdpimaaDoorZLm6
set_option linter.unusedVariables false
set_option linter.unusedSimpArgs false
set_option linter.unusedSectionVars false
set_option maxHeartbeats 8000000
set_option maxRecDepth 100000
namespace Go.Proofs.YtdpklbomhdpimaaDoor.P
open Go.RowKit Go.Proofs.YtdpklbomhdpimaaDoorW.PrintWords Go.Proofs.YtdpklbomhdpimaaDoorW.PrintLast
attribute [local go_sem high] eqA69

end Go.Proofs.YtdpklbomhdpimaaDoor.P
namespace Go.Proofs.YtdpklbomhdpimaaDoor.PL
open Go.RowKit Go.Proofs.YtdpklbomhdpimaaDoor.P Go.Proofs.YtdpklbomhdpimaaDoorW.PrintWords Go.Proofs.YtdpklbomhdpimaaDoorW.PrintLast
theorem evnow {α:Type} (a:α):Ev (fun _=>some a) a:=⟨0,fun _ _=>rfl⟩
theorem ev_neg {α:Type} {c:Prop} [Decidable c] {f g:Nat→Option α} {r:α} (h:¬ c) (k:Ev g r):Ev (fun n=>if c then f n else g n) r:=Ev.congr (fun _=>if_neg h) k
theorem ev_pos {α:Type} {c:Prop} [Decidable c] {f g:Nat→Option α} {r:α} (h:c) (k:Ev f r):Ev (fun n=>if c then f n else g n) r:=Ev.congr (fun _=>if_pos h) k
theorem wrapS (i:Int) (h0:0≤i) (h:i≤4611686018427387904):wrap64 (i+1)=i+1:=by unfold wrap64;omega
theorem wrapT (i:Int) (h0:0≤i) (h:i+1≤9223372036854775807):wrap64 (i+1)=i+1:=by unfold wrap64;omega
def I64 (a:Int):Prop:=-9223372036854775808≤a∧a≤9223372036854775807

def madeB (a:Int):Bool:=decide (ownI a≠0)&&decide (ownI a≠1)
def rootB (a:Int):Bool:=decide (1≤a)&&decide (a≤3)
theorem in_f (a b c:Int):spec_l6In.f a b c=some (decide (b≤a)&&decide (a≤c)):=by
 unfold spec_l6In.f
 by_cases h:a≥b
 ·rw [if_pos h];simp [h]
 ·rw [if_neg h];simp [show ¬ b≤a from h]
theorem ownI_out (a:Int) (h:a < 0∨37≤a):ownI a=0:=by
 unfold ownI
 rw [if_neg (by omega)]
theorem small_made:∀ n:Nat,n < 37→(decide (1≤Int.tdiv (n:Int) 10)&&decide (Int.tdiv (n:Int) 10≤3))=true→(decide (1≤Int.tmod (n:Int) 10)&&decide (Int.tmod (n:Int) 10≤6))=madeB n:=by decide
theorem small_unmade:∀ n:Nat,n < 37→(decide (1≤Int.tdiv (n:Int) 10)&&decide (Int.tdiv (n:Int) 10≤3))=false→madeB n=false:=by decide
theorem small_who:∀ n:Nat,n < 37→madeB n=true→ownI n - 1=Int.tdiv (n:Int) 10:=by decide
theorem small_root:∀ n:Nat,n < 37→(decide (ownI n≠0)&&decide (ownI n - 1=0))=rootB n:=by decide
theorem tdiv_wrap (a:Int) (h:I64 a):wrap64 (Int.tdiv a 10)=Int.tdiv a 10:=by
 obtain ⟨h1,h2⟩:=h
 have:Int.tdiv a 10≤9223372036854775807∧-9223372036854775808≤Int.tdiv a 10:=by
  rcases Int.le_total 0 a with h0|h0
  ·rw [Int.tdiv_eq_ediv_of_nonneg h0];omega
  ·have e:Int.tdiv a 10=-(Int.tdiv (-a) 10):=by rw [Int.neg_tdiv,Int.neg_neg]
   rw [e,Int.tdiv_eq_ediv_of_nonneg (by omega)];omega
 unfold wrap64;omega
theorem made_f (a:Int) (h:I64 a):spec_l1Made.f a=some (madeB a):=by
 unfold spec_l1Made.f
 rw [in_f,in_f,tdiv_wrap a h]
 simp only [Option.bind_some]
 by_cases hs:0≤a∧a < 37
 ·obtain ⟨n,rfl⟩:∃ n:Nat,a=n:=⟨a.toNat,by omega⟩
  have hn:n < 37:=by omega
  cases hd:(decide (1≤Int.tdiv (n:Int) 10)&&decide (Int.tdiv (n:Int) 10≤3)) with
  | true=>rw [if_pos rfl,small_made n hn hd]
  | false=>rw [if_neg (by decide),small_unmade n hn hd]
 ·have ho:madeB a=false:=by unfold madeB;rw [ownI_out a (by omega)];rfl
  rw [ho]
  rcases Int.lt_or_le a 0 with h0|h0
  ·have e:Int.tdiv a 10=-(Int.tdiv (-a) 10):=by rw [Int.neg_tdiv,Int.neg_neg]
   have h1:Int.tdiv a 10≤0:=by rw [e,Int.tdiv_eq_ediv_of_nonneg (by omega)];omega
   have h2:decide (1≤Int.tdiv a 10)=false:=df_ (by omega)
   rw [h2]
   simp
  ·have e1:=Int.tdiv_eq_ediv_of_nonneg (b:=10) h0
   have e2:Int.tmod a 10=a % 10:=Int.tmod_eq_emod_of_nonneg h0
   rw [e1,e2]
   by_cases h3:a / 10≤3
   ·have h4:decide (a % 10≤6)=false:=df_ (by omega)
    rw [h4]
    simp
   ·have h4:decide (a / 10≤3)=false:=df_ h3
    rw [h4]
    simp
theorem isMade_f (a:Int):impl_isMade.f a=some (madeB a):=by
 unfold impl_isMade.f impl_RowWho.f madeB
 simp only [Option.bind_some]
 by_cases h0:ownI a=0
 ·rw [if_pos h0];simp [h0]
 ·rw [if_neg h0]
  by_cases h1:ownI a=1
  ·simp [h1]
  ·simp [h0,h1]
   omega
theorem isRoot_f (a:Int):impl_isRoot.f a=some (rootB a):=by
 unfold impl_isRoot.f impl_RowWho.f
 simp only [Option.bind_some]
 by_cases hs:0≤a∧a < 37
 ·obtain ⟨n,rfl⟩:∃ n:Nat,a=n:=⟨a.toNat,by omega⟩
  have:=small_root n (by omega)
  rw [←this]
  by_cases h0:ownI (n:Int)=0
  ·rw [if_pos h0];simp [h0]
  ·rw [if_neg h0]
   by_cases h1:ownI (n:Int) - 1=0 <;> simp [h0,h1]
 ·rw [if_pos (ownI_out a (by omega))]
  have:rootB a=false:=by unfold rootB;simp;omega
  rw [this]
  simp
theorem root_f (a:Int):spec_l1Root.f a=some (rootB a):=by
 unfold spec_l1Root.f
 rw [in_f]
 rfl
def idB (a:Int):Bool:=rootB a || madeB a
theorem id_f (a:Int) (h:I64 a):spec_l3Id.f a=some (idB a):=by
 unfold spec_l3Id.f idB
 rw [root_f,made_f a h]
 simp only [Option.bind_some]
 cases rootB a <;> simp
def placeB (u a:Int):Bool:=idB u&&(decide (a=0) || madeB a)
theorem place_f (u a:Int):impl_placeOk.f u a=some (placeB u a):=by
 unfold impl_placeOk.f placeB idB
 rw [isMade_f,isMade_f,isRoot_f]
 simp only [Option.bind_some]
 by_cases h:a=0
 ·simp only [h,if_true]
  cases madeB u <;> cases rootB u <;> simp
 ·simp only [h,if_false]
  cases madeB u <;> cases rootB u <;> simp
def textFrom (s:ByteArray) (i:Nat):Nat→Bool
 | 0=>true
 | n+1=>decide (97≤bt s i)&&decide (bt s i≤100)&&textFrom s (i+1) n
def textB (s:ByteArray):Bool:=textFrom s 0 s.size&&decide (s.size≤4)
theorem bt_range (s:ByteArray) (i:Int):0≤bt s i∧bt s i≤255:=by
 unfold bt
 split
 ·rename_i h
  have:=(s[i.toNat]'h).toNat_lt
  omega
 ·omega
theorem text_l0 (s:ByteArray) (hs:s.size≤9223372036854775807):∀ (n:Nat) (i:Nat),i+n=s.size→Ev (fun k=>spec_l1Text.l0 k s i) (textFrom s i n&&decide (s.size≤4))
 | 0,i,h=>by
  refine Ev.step (f:=fun _=>some (decide ((s.size:Int)≤4))) (fun k=>?_) ?_
  ·simp only [spec_l1Text.l0];rw [if_neg (by omega)]
  ·have:decide ((s.size:Int)≤4)=(textFrom s i 0&&decide (s.size≤4)):=by simp [textFrom];omega
   rw [this];exact evnow _
 | n+1,i,h=>by
  have hw:wrap64 (bt s i)=bt s i:=by have:=bt_range s i;unfold wrap64;omega
  unfold textFrom
  cases ht:(decide (97≤bt s i)&&decide (bt s i≤100)) with
  | true =>
   rw [Bool.true_and]
   refine Ev.step (fun k=>?_) (text_l0 s hs n (i+1) (by omega))
   simp only [spec_l1Text.l0]
   rw [if_pos (by omega),if_pos (by omega),hw,in_f,ht,Option.bind_some,if_pos rfl,wrapT i (by omega) (by omega)]
   rfl
  | false =>
   rw [Bool.false_and,Bool.false_and]
   refine Ev.step (f:=fun _=>some false) (fun k=>?_) (evnow _)
   simp only [spec_l1Text.l0]
   rw [if_pos (by omega),if_pos (by omega),hw,in_f,ht,Option.bind_some,if_neg (by decide)]
theorem text_f (s:ByteArray) (hs:s.size≤9223372036854775807):Ev (fun k=>spec_l1Text.f k s) (textB s):=text_l0 s hs s.size 0 (by omega)
theorem itext_l0 (s:ByteArray) (hs:s.size≤9223372036854775807):∀ (n:Nat) (i:Nat),i+n=s.size→Ev (fun k=>impl_textOk.l0 k s i) (textFrom s i n)
 | 0,i,h=>by
  refine Ev.step (f:=fun _=>some true) (fun k=>?_) (evnow _)
  simp only [impl_textOk.l0];rw [if_neg (by omega)]
 | n+1,i,h=>by
  unfold textFrom
  by_cases h1:bt s i < 97
  ·have:decide (97≤bt s i)=false:=df_ (by omega)
   rw [this,Bool.false_and,Bool.false_and]
   refine Ev.step (f:=fun _=>some false) (fun k=>?_) (evnow _)
   simp only [impl_textOk.l0]
   rw [if_pos (by omega),if_pos (by omega),if_pos h1]
  ·by_cases h2:bt s i > 100
   ·have:decide (bt s i≤100)=false:=df_ (by omega)
    rw [this,Bool.and_false,Bool.false_and]
    refine Ev.step (f:=fun _=>some false) (fun k=>?_) (evnow _)
    simp only [impl_textOk.l0]
    rw [if_pos (by omega),if_pos (by omega),if_neg h1,if_pos h2]
   ·have e1:decide (97≤bt s i)=true:=dt_ (by omega)
    have e2:decide (bt s i≤100)=true:=dt_ (by omega)
    rw [e1,e2,Bool.true_and,Bool.true_and]
    refine Ev.step (fun k=>?_) (itext_l0 s hs n (i+1) (by omega))
    simp only [impl_textOk.l0]
    rw [if_pos (by omega),if_pos (by omega),if_neg h1,if_neg h2,wrapT i (by omega) (by omega)]
    rfl
theorem itext_f (s:ByteArray) (hs:s.size≤9223372036854775807):Ev (fun k=>impl_textOk.f k s) (textB s):=by
 unfold impl_textOk.f textB
 by_cases h:(s.size:Int) > 4
 ·refine ev_pos h ?_
  have:decide (s.size≤4)=false:=df_ (by omega)
  rw [this,Bool.and_false]
  exact evnow _
 ·refine ev_neg h ?_
  have:decide (s.size≤4)=true:=dt_ (by omega)
  rw [this,Bool.and_true]
  exact itext_l0 s hs s.size 0 (by omega)
theorem text_nil (s:ByteArray) (h:s.toList.isEmpty=true):textB s=true:=by
 have:s.size=0:=by
  have h2:=List.isEmpty_iff.1 h
  have h3:s.toList.length=s.size:=by rw [Go.ByteArray.toList_eq];exact Array.length_toList
  rw [←h3,h2];rfl
 unfold textB
 rw [this]
 rfl
def opB (k i u a:Int) (s:ByteArray):Bool :=
 madeB i&&(if k=1 then placeB u a&&textB s else if k=2 then decide (u=0)&&decide (a=0)&&textB s else if k=3 then placeB u a&&s.toList.isEmpty else false)
theorem opOk_f (k i u a:Int) (s:ByteArray) (hs:s.size≤9223372036854775807):Ev (fun n=>impl_OpOk.f n k i u a s) (opB k i u a s):=by
 unfold impl_OpOk.f impl_changeOf.f opB
 rw [isMade_f]
 simp only [Option.bind_some]
 cases madeB i with
 | false=>simp only [Bool.false_eq_true,if_false,Bool.false_and];exact evnow _
 | true =>
  simp only [if_true,Bool.true_and,place_f,Option.bind_some]
  by_cases h1:k=1
  ·simp only [h1,if_true]
   cases placeB u a with
   | true=>simp only [if_true,Bool.true_and];exact itext_f s hs
   | false=>simp only [Bool.false_eq_true,if_false,Bool.false_and];exact evnow _
  ·simp only [h1,if_false]
   by_cases h2:k=2
   ·simp only [h2,if_true]
    by_cases h3:u=0
    ·by_cases h4:a=0
     ·simp only [h3,h4,if_true,decide_true,Bool.true_and];exact itext_f s hs
     ·simp only [h3,h4,if_true,if_false,decide_true,decide_false,Bool.true_and,Bool.false_and];exact evnow _
    ·simp only [h3,if_false,decide_false,Bool.false_and];exact evnow _
   ·simp only [h2,if_false]
    by_cases h3:k=3
    ·simp only [h3,if_true]
     cases placeB u a with
     | true=>simp only [if_true,Bool.true_and];exact evnow _
     | false=>simp only [Bool.false_eq_true,if_false,Bool.false_and];exact evnow _
    ·simp only [h3,if_false];exact evnow _
theorem sop_f (k i u a:Int) (s:ByteArray) (hi:I64 i) (hu:I64 u) (ha:I64 a) (hs:s.size≤9223372036854775807):Ev (fun n=>spec_OpOk.f n k i u a s) (opB k i u a s):=by
 unfold spec_OpOk.f opB
 rw [made_f i hi]
 simp only [Option.bind_some]
 cases madeB i with
 | false =>
  simp only [Bool.false_eq_true,if_false,Bool.false_and]
  refine Ev.step (f:=fun _=>some false) (fun n=>?_) (evnow _)
  simp only [spec_OpOk.j0,if_true]
 | true =>
  simp only [if_true,Bool.true_and]
  refine Ev.bind (text_f s hs) ?_
  have hp:(idB u&&(decide (a=0) || madeB a))=placeB u a:=rfl
  cases ht:textB s with
  | false =>
   have hne:s.toList.isEmpty=false:=by
    cases he:s.toList.isEmpty with
    | false=>rfl
    | true=>rw [text_nil s he] at ht;cases ht
   refine Ev.step (f:=fun _=>some false) (fun n=>?_) ?_
   ·simp only [spec_OpOk.j0,Bool.not_false,if_true]
   ·simp only [hne,Bool.and_false,ite_self]
    exact evnow _
  | true =>
   refine Ev.step (f:=fun _=>some (if k=1 then placeB u a&&true else if k=2 then decide (u=0)&&decide (a=0)&&true else if k=3 then placeB u a&&s.toList.isEmpty else false)) (fun n=>?_) (evnow _)
   simp only [spec_OpOk.j0,Bool.not_true,Bool.false_eq_true,if_false]
   rw [id_f u hu,made_f a ha]
   simp only [Option.bind_some,Bool.and_true]
   rw [←hp]
   have hnil:(s.toList==([]:List UInt8))=s.toList.isEmpty:=by cases s.toList <;> rfl
   rw [hnil]
   by_cases h1:k=1
   ·simp only [h1,if_true]
    by_cases h4:a=0
    ·simp only [h4,if_true,decide_true,Bool.true_or,Bool.and_true];cases idB u <;> simp
    ·simp only [h4,if_false,decide_false,Bool.false_or];cases idB u <;> simp
   ·simp only [h1,if_false]
    by_cases h2:k=2
    ·simp only [h2,if_true]
     by_cases h3:u=0
     ·simp [h3];by_cases h4:a=0 <;> simp [h4]
     ·simp [h3]
    ·simp only [h2,if_false]
     by_cases h3:k=3
     ·simp only [h3,if_true]
      by_cases h4:a=0
      ·simp only [h4,if_true,decide_true,Bool.true_or,Bool.and_true];cases idB u <;> simp
      ·simp only [h4,if_false,decide_false,Bool.false_or];cases idB u <;> cases madeB a <;> simp
     ·simp only [h3,if_false]
theorem made_small (a:Int) (h:madeB a=true):0≤a∧a < 37:=by
 rcases Int.lt_or_le a 0 with h0|h0
 ·unfold madeB at h;rw [ownI_out a (by omega)] at h;simp at h
 ·rcases Int.lt_or_le a 37 with h1|h1
  ·exact ⟨h0,h1⟩
  ·unfold madeB at h;rw [ownI_out a (by omega)] at h;simp at h
theorem opB_made (k i u a:Int) (s:ByteArray) (h:opB k i u a s=true):madeB i=true:=by
 unfold opB at h
 simp only [Bool.and_eq_true] at h
 exact h.1
def wfE (e:S44):Prop:=I64 e.f0∧I64 e.f1∧I64 e.f2.f0∧I64 e.f2.f1∧I64 e.f2.f2∧I64 e.f2.f3∧e.f2.f4.size≤9223372036854775807
def entB (e:S44):Bool :=
 decide (1≤e.f0)&&decide (e.f0≤3)&&(decide (1≤e.f1)&&decide (e.f1≤40))&&opB e.f2.f0 e.f2.f1 e.f2.f2 e.f2.f3 e.f2.f4&&(decide (e.f2.f0≠1) || decide (ownI e.f2.f1 - 1=e.f0))
theorem who_made (i:Int) (h:madeB i=true):ownI i - 1=wrap64 (Int.tdiv i 10):=by
 obtain ⟨h0,h1⟩:=made_small i h
 obtain ⟨n,rfl⟩:∃ n:Nat,i=n:=⟨i.toNat,by omega⟩
 rw [tdiv_wrap _ ⟨by omega,by omega⟩]
 exact small_who n (by omega) h
theorem ent_f (e:S44) (h:wfE e):Ev (fun n=>impl_EntryOk.f n e.f0 e.f1 e.f2.f0 e.f2.f1 e.f2.f2 e.f2.f3 e.f2.f4) (entB e):=by
 obtain ⟨h0,h1,h2,h3,h4,h5,h6⟩:=h
 unfold impl_EntryOk.f impl_whoOk.f entB
 by_cases a1:e.f0≥1
 ·simp only [a1,if_true,Option.bind_some,ge_iff_le,decide_true,Bool.true_and]
  cases a2:decide (e.f0≤3) with
  | false=>simp only [Bool.false_eq_true,if_false,Bool.false_and];exact evnow _
  | true =>
   simp only [if_true,Bool.true_and]
   by_cases a3:e.f1 < 1
   ·have:decide (1≤e.f1)=false:=df_ (by omega)
    simp only [a3,if_true,this,Bool.false_and];exact evnow _
   ·have e3:decide (1≤e.f1)=true:=dt_ (by omega)
    by_cases a4:e.f1 > 40
    ·have:decide (e.f1≤40)=false:=df_ (by omega)
     simp only [a3,if_false,a4,if_true,this,Bool.and_false,Bool.false_and];exact evnow _
    ·have e4:decide (e.f1≤40)=true:=dt_ (by omega)
     simp only [a3,if_false,a4,e3,e4,Bool.true_and]
     refine Ev.bind (opOk_f _ _ _ _ _ h6) ?_
     cases ho:opB e.f2.f0 e.f2.f1 e.f2.f2 e.f2.f3 e.f2.f4 with
     | false=>simp only [Bool.false_eq_true,if_false,Bool.false_and];exact evnow _
     | true =>
      simp only [if_true,Bool.true_and]
      have hm:=opB_made _ _ _ _ _ ho
      unfold impl_RowWho.f
      have hn:ownI e.f2.f1≠0:=by
       intro hz
       unfold madeB at hm
       rw [hz] at hm
       simp at hm
      rw [if_neg hn]
      simp only [Option.bind_some]
      by_cases a5:e.f2.f0=1
      ·simp only [a5,if_true,ne_eq,not_true,decide_false,Bool.false_or]
       have:(ownI e.f2.f1 - 1==e.f0)=decide (ownI e.f2.f1 - 1=e.f0):=by by_cases hq:ownI e.f2.f1 - 1=e.f0 <;> simp [hq]
       rw [this];exact evnow _
      ·simp only [a5,if_false,ne_eq,not_false_eq_true,decide_true,Bool.true_or];exact evnow _
 ·have:decide (1≤e.f0)=false:=df_ (by omega)
  simp only [a1,if_false,Option.bind_some,Bool.false_eq_true,this,Bool.false_and];exact evnow _
theorem sent_f (e:S44) (h:wfE e):Ev (fun n=>spec_EntryOk.f n e.f0 e.f1 e.f2.f0 e.f2.f1 e.f2.f2 e.f2.f3 e.f2.f4) (entB e):=by
 obtain ⟨h0,h1,h2,h3,h4,h5,h6⟩:=h
 unfold spec_EntryOk.f entB
 rw [in_f,in_f]
 simp only [Option.bind_some]
 cases (decide (1≤e.f0)&&decide (e.f0≤3)) with
 | false=>simp only [Bool.false_eq_true,if_false,Bool.false_and];exact evnow _
 | true =>
  cases (decide (1≤e.f1)&&decide (e.f1≤40)) with
  | false=>simp only [Bool.false_eq_true,if_true,if_false,Bool.true_and,Bool.false_and];exact evnow _
  | true =>
   simp only [if_true,Bool.true_and]
   refine Ev.bind (sop_f _ _ _ _ _ h3 h4 h5 h6) ?_
   cases ho:opB e.f2.f0 e.f2.f1 e.f2.f2 e.f2.f3 e.f2.f4 with
   | false=>simp only [Bool.false_eq_true,if_false,Bool.false_and];exact evnow _
   | true =>
    simp only [if_true,Bool.true_and]
    have hm:=who_made _ (opB_made _ _ _ _ _ ho)
    by_cases a5:e.f2.f0=1
    ·simp only [a5,if_true,ne_eq,not_true,decide_false,Bool.false_or]
     have:(wrap64 (Int.tdiv e.f2.f1 10)==e.f0)=decide (ownI e.f2.f1 - 1=e.f0):=by rw [hm];by_cases hq:wrap64 (Int.tdiv e.f2.f1 10)=e.f0 <;> simp [hq]
     rw [this];exact evnow _
    ·simp only [a5,if_false,ne_eq,not_false_eq_true,decide_true,Bool.true_or];exact evnow _
def goB:List S44→List S44→Bool
 | _,[]=>true
 | pre,e::rest=>entB e&&decide (cntE pre e.f0+1=e.f1)&&goB (pre++[e]) rest
def logB (l:List S44):Bool:=decide (l.length≤40)&&goB [] l
def wfL (l:List S44):Prop:=∀ e∈l,wfE e
theorem log_go:∀ (rest pre:List S44),wfL rest→Ev (fun n=>impl_LogOk.go n pre rest) (goB pre rest)
 | [],_,_=>Ev.congr (f:=fun _=>some true) (fun n=>by unfold impl_LogOk.go;rfl) (evnow _)
 | e::rest,pre,h=>by
  unfold goB
  refine Ev.congr (f:=fun k=>(impl_EntryOk.f k e.f0 e.f1 e.f2.f0 e.f2.f1 e.f2.f2 e.f2.f3 e.f2.f4).bind fun t=>if t=true then (if cntE pre e.f0+1=e.f1 then impl_LogOk.go k (pre++[e]) rest else some false) else some false) (fun n=>by rw [impl_LogOk.go]) ?_
  refine Ev.bind (ent_f e (h e (List.mem_cons_self))) ?_
  cases entB e with
  | false=>simp only [Bool.false_eq_true,if_false,Bool.false_and];exact evnow _
  | true =>
   simp only [if_true,Bool.true_and]
   by_cases hq:cntE pre e.f0+1=e.f1
   ·simp only [hq,if_true,decide_true,Bool.true_and];exact log_go rest _ (fun x hx=>h x (List.mem_cons_of_mem _ hx))
   ·simp only [hq,if_false,decide_false,Bool.false_and];exact evnow _
theorem log_f (l:List S44) (h:wfL l):Ev (fun n=>impl_LogOk.f n l) (logB l):=by
 unfold impl_LogOk.f logB
 by_cases h40:(l.length:Int) > 40
 ·refine ev_pos h40 ?_
  have:decide (l.length≤40)=false:=df_ (by omega)
  rw [this,Bool.false_and];exact evnow _
 ·refine ev_neg h40 ?_
  have:decide (l.length≤40)=true:=dt_ (by omega)
  rw [this,Bool.true_and];exact log_go l [] h
theorem rdE_get (l:List S44) (i:Nat) (h:i < l.length):rd_T44 l i=l[i]:=by
 unfold rd_T44
 rw [List.getD_eq_getElem?_getD,show ((i:Int)).toNat=i from rfl,List.getElem?_eq_getElem h]
 rfl
theorem seq_l0 (l:List S44) (who:Int) (hl:l.length≤281474976710656):∀ (n:Nat) (i:Nat) (c:Int),i+n=l.length→0≤c→c≤i→Ev (fun k=>spec_l12Seq.l0 k l who c i) (c+cntE (l.drop i) who)
 | 0,i,c,h,h0,h1=>by
  refine Ev.step (f:=fun _=>some c) (fun k=>?_) ?_
  ·simp only [spec_l12Seq.l0];rw [if_neg (by omega)]
  ·have:c+cntE (l.drop i) who=c:=by rw [List.drop_eq_nil_of_le (by omega)];unfold cntE;simp
   rw [this];exact evnow _
 | n+1,i,c,h,h0,h1=>by
  have hi:i < l.length:=by omega
  have hd:=List.drop_eq_getElem_cons hi
  have hc:cntE (l.drop i) who=cntE (l.drop (i+1)) who+(if l[i].f0=who then 1 else 0):=by
   rw [hd]
   unfold cntE
   rw [List.countP_cons]
   by_cases hq:l[i].f0=who <;> simp [hq]
  rw [hc]
  by_cases hq:l[i].f0=who
  ·rw [if_pos hq,show c+(cntE (l.drop (i+1)) who+1)=(c+1)+cntE (l.drop (i+1)) who by omega]
   refine Ev.step (fun k=>?_) (seq_l0 l who hl n (i+1) (c+1) (by omega) (by omega) (by omega))
   simp only [spec_l12Seq.l0]
   rw [if_pos (by omega),if_pos (by omega),rdE_get l i hi,if_pos hq,wrapS i (by omega) (by omega),wrapS c (by omega) (by omega)]
   rfl
  ·rw [if_neg hq,Int.add_zero]
   refine Ev.step (fun k=>?_) (seq_l0 l who hl n (i+1) c (by omega) (by omega) (by omega))
   simp only [spec_l12Seq.l0]
   rw [if_pos (by omega),if_pos (by omega),rdE_get l i hi,if_neg hq,wrapS i (by omega) (by omega)]
   rfl
theorem seq_f (l:List S44) (who:Int) (hl:l.length≤281474976710656):Ev (fun k=>spec_l12Seq.f k l who) (cntE l who):=by
 have:=seq_l0 l who hl l.length 0 0 (by omega) (by omega) (by omega)
 rw [Int.zero_add] at this
 exact this
theorem slog_l0 (l:List S44) (h:wfL l) (hl:l.length≤281474976710656):∀ (n:Nat) (i:Nat),i+n=l.length→Ev (fun k=>spec_LogOk.l0 k l i) (goB (l.take i) (l.drop i)&&decide (l.length≤40))
 | 0,i,hn=>by
  rw [List.drop_eq_nil_of_le (by omega)]
  refine Ev.step (f:=fun _=>some (decide ((l.length:Int)≤40))) (fun k=>?_) ?_
  ·simp only [spec_LogOk.l0];rw [if_neg (by omega)]
  ·have:decide ((l.length:Int)≤40)=(goB (l.take i) []&&decide (l.length≤40)):=by unfold goB;simp;omega
   rw [this];exact evnow _
 | n+1,i,hn=>by
  have hi:i < l.length:=by omega
  rw [List.drop_eq_getElem_cons hi]
  unfold goB
  rw [←List.take_succ_eq_append_getElem hi]
  refine Ev.step (f:=fun k=>(spec_EntryOk.f k l[i].f0 l[i].f1 l[i].f2.f0 l[i].f2.f1 l[i].f2.f2 l[i].f2.f3 l[i].f2.f4).bind fun t127=>(if t127=true then ((spec_l12Seq.f k (l.take i) l[i].f0).bind fun t134=>(if l[i].f1=(wrap64 (t134+1)) then (spec_LogOk.l0 k l ((i+1:Nat):Int)) else (some false))) else (some false))) (fun k=>?_) ?_
  ·simp only [spec_LogOk.l0]
   rw [if_pos (by omega),if_pos (by omega),rdE_get l i hi,if_pos (by omega),wrapS i (by omega) (by omega)]
   rfl
  ·refine Ev.bind (sent_f _ (h _ (List.getElem_mem hi))) ?_
   cases entB l[i] with
   | false=>simp only [Bool.false_eq_true,if_false,Bool.false_and];exact evnow _
   | true =>
    simp only [if_true,Bool.true_and]
    refine Ev.bind (seq_f (l.take i) l[i].f0 (by rw [List.length_take];omega)) ?_
    have hcn:=cntE_le (l.take i) l[i].f0
    have hw:wrap64 (cntE (l.take i) l[i].f0+1)=cntE (l.take i) l[i].f0+1:=wrapS _ hcn.1 (by have:=hcn.2;rw [List.length_take] at this;omega)
    rw [hw]
    by_cases hq:cntE (l.take i) l[i].f0+1=l[i].f1
    ·rw [dt_ hq,Bool.true_and]
     refine ev_pos hq.symm ?_
     exact slog_l0 l h hl n (i+1) (by omega)
    ·rw [df_ hq,Bool.false_and,Bool.false_and]
     refine ev_neg (fun e=>hq e.symm) ?_
     exact evnow _
theorem slog_f (l:List S44) (h:wfL l) (hl:l.length≤281474976710656):Ev (fun k=>spec_LogOk.f k l) (logB l):=by
 have:=slog_l0 l h hl l.length 0 (by omega)
 unfold logB
 rw [Bool.and_comm]
 exact this
theorem logB_len {l:List S44} (h:logB l=true):l.length≤40:=by
 unfold logB at h
 simp only [Bool.and_eq_true,decide_eq_true_eq] at h
 exact h.1
def eqEn (a b:S44):Bool:=a.f0==b.f0&&(a.f1==b.f1&&(a.f2.f0==b.f2.f0&&(a.f2.f1==b.f2.f1&&(a.f2.f2==b.f2.f2&&(a.f2.f3==b.f2.f3&&(a.f2.f4.toList==b.f2.f4.toList))))))
theorem eqEn_comm (a b:S44):eqEn a b=eqEn b a:=by
 have h:∀ a b:S44,eqEn a b=true→eqEn b a=true:=by
  intro a b h
  unfold eqEn at *
  simp only [Bool.and_eq_true,beq_iff_eq] at *
  obtain ⟨h0,h1,h2,h3,h4,h5,h6⟩:=h
  exact ⟨h0.symm,h1.symm,h2.symm,h3.symm,h4.symm,h5.symm,h6.symm⟩
 exact Bool.eq_iff_iff.2 ⟨h a b,h b a⟩
def hasE (l:List S44) (e:S44):Bool:=l.any fun x=>eqEn x e
theorem hasE_cons (x:S44) (l:List S44) (e:S44):hasE (x::l) e=(eqEn x e || hasE l e):=rfl
theorem has_l0 (l:List S44) (e:S44) (hl:l.length≤1099511627776):∀ n i:Nat,i+n=l.length→Ev (fun k=>spec_l12Has.l0 k l i e.f0 e.f1 e.f2.f0 e.f2.f1 e.f2.f2 e.f2.f3 e.f2.f4) (hasE (l.drop i) e)
 | 0,i,h=>by
  rw [List.drop_eq_nil_of_le (by omega)]
  refine Ev.step (f:=fun _=>some false) (fun k=>?_) (evnow _)
  simp only [spec_l12Has.l0];rw [if_neg (by omega)]
 | n+1,i,h=>by
  have hi:i < l.length:=by omega
  rw [List.drop_eq_getElem_cons hi,hasE_cons]
  refine Ev.step (f:=fun k=>if eqEn l[i] e=true then some true else spec_l12Has.l0 k l ((i+1:Nat):Int) e.f0 e.f1 e.f2.f0 e.f2.f1 e.f2.f2 e.f2.f3 e.f2.f4) (fun k=>?_) ?_
  ·simp only [spec_l12Has.l0]
   rw [if_pos (by omega),if_pos (by omega),rdE_get l i hi,wrapS i (by omega) (by omega)]
   rfl
  ·cases hq:eqEn l[i] e with
   | true=>exact ev_pos rfl (evnow _)
   | false=>exact ev_neg (by decide) (has_l0 l e hl n (i+1) (by omega))
theorem has_f (l:List S44) (e:S44) (hl:l.length≤1099511627776):Ev (fun k=>spec_l12Has.f k l e.f0 e.f1 e.f2.f0 e.f2.f1 e.f2.f2 e.f2.f3 e.f2.f4) (hasE l e):=by
 unfold spec_l12Has.f
 exact has_l0 l e hl l.length 0 (by omega)
theorem ihas_l0 (l:List S44) (e:S44) (hl:l.length≤1099511627776):∀ n i:Nat,i+n=l.length→∃ r:Int,Ev (fun k=>impl_Entry_123.l0 k l (l.length:Int) i e.f0 e.f1 e.f2.f0 e.f2.f1 e.f2.f2 e.f2.f3 e.f2.f4) r∧decide (r≥0)=hasE (l.drop i) e
 | 0,i,h=>by
  rw [List.drop_eq_nil_of_le (by omega)]
  refine ⟨-1,Ev.step (f:=fun _=>some (-1)) (fun k=>?_) (evnow _),rfl⟩
  simp only [impl_Entry_123.l0];rw [if_neg (by omega)]
 | n+1,i,h=>by
  have hi:i < l.length:=by omega
  obtain ⟨r,hr,hd⟩:=ihas_l0 l e hl n (i+1) (by omega)
  rw [List.drop_eq_getElem_cons hi,hasE_cons]
  have st:∀ k,impl_Entry_123.l0 (k+1) l (l.length:Int) i e.f0 e.f1 e.f2.f0 e.f2.f1 e.f2.f2 e.f2.f3 e.f2.f4=if eqEn e l[i]=true then some (i:Int) else impl_Entry_123.l0 k l (l.length:Int) ((i+1:Nat):Int) e.f0 e.f1 e.f2.f0 e.f2.f1 e.f2.f2 e.f2.f3 e.f2.f4:=fun k=>by
   simp only [impl_Entry_123.l0]
   rw [if_pos (by omega),if_pos (by omega),if_pos (by omega),rdE_get l i hi,wrapS i (by omega) (by omega)]
   rfl
  rw [eqEn_comm l[i] e]
  cases hq:eqEn e l[i] with
  | true =>
   rw [hq] at st
   exact ⟨i,Ev.step (f:=fun _=>some (i:Int)) (fun k=>by rw [st k,if_pos rfl]) (evnow _),by simp⟩
  | false =>
   rw [hq] at st
   exact ⟨r,Ev.step (fun k=>by rw [st k,if_neg (by decide)]) hr,by rw [hd,Bool.false_or]⟩
theorem ihas_f (l:List S44) (e:S44) (hl:l.length≤1099511627776):Ev (fun k=>impl_Entry_86.f k l e.f0 e.f1 e.f2.f0 e.f2.f1 e.f2.f2 e.f2.f3 e.f2.f4) (hasE l e):=by
 obtain ⟨r,hr,hd⟩:=ihas_l0 l e hl l.length 0 (by omega)
 have hd:decide (r≥0)=hasE l e:=hd
 unfold impl_Entry_86.f impl_Entry_123.f
 rw [←hd]
 exact Ev.bind hr (evnow _)
def addV (l:List S44) (e:S44):List S44×Int:=if hasE l e=true then (l,0) else if e.f1=cntE l e.f0+1 then (if (l.length:Int)≥40 then (l,-1) else (l++[e],1)) else (l,-1)
theorem add_f (l:List S44) (e:S44) (hl:l.length≤1099511627776):Ev (fun k=>spec_l12Add.f k l e.f0 e.f1 e.f2.f0 e.f2.f1 e.f2.f2 e.f2.f3 e.f2.f4) (addV l e):=by
 have hc:=cntE_le l e.f0
 have w1:wrap64 (cntE l e.f0+1)=cntE l e.f0+1:=wrapS _ hc.1 (by omega)
 unfold spec_l12Add.f addV
 refine Ev.bind (seq_f l e.f0 (by omega)) (Ev.bind (has_f l e hl) ?_)
 rw [w1]
 cases hasE l e with
 | true=>exact ev_pos rfl (evnow _)
 | false =>
  refine ev_neg (by decide) ?_
  rw [if_neg (show ¬ (false=true) by decide)]
  by_cases h1:e.f1=cntE l e.f0+1
  ·refine ev_pos h1 ?_
   rw [if_pos h1]
   by_cases h2:(l.length:Int)≥40
   ·refine ev_pos h2 ?_
    rw [if_pos h2]
    exact evnow _
   ·refine ev_neg h2 ?_
    rw [if_neg h2]
    simp only [Option.bind_some,List.nil_append,List.length_nil,List.length_cons]
    exact ev_pos (by omega) (ev_pos (by omega) (evnow _))
  ·refine ev_neg h1 ?_
   rw [if_neg h1]
   exact evnow _
def logAddV (l:List S44) (e:S44):List S44×Int:=if logB l=true then (if entB e=true then addV l e else ([],-1)) else ([],-1)
theorem entB_who {e:S44} (h:entB e=true):1≤e.f0∧e.f0≤3:=by
 unfold entB at h
 simp only [Bool.and_eq_true,decide_eq_true_eq] at h
 exact h.1.1.1
theorem ilogAdd_f (l:List S44) (e:S44) (hw:wfL l) (he:wfE e):Ev (fun k=>impl_LogAdd.f k l e.f0 e.f1 e.f2.f0 e.f2.f1 e.f2.f2 e.f2.f3 e.f2.f4) (logAddV l e):=by
 have j0t:Ev (fun k=>impl_LogAdd.j0 k l true e.f0 e.f1 e.f2.f0 e.f2.f1 e.f2.f2 e.f2.f3 e.f2.f4) (([]:List S44),(-1:Int)):=Ev.step (f:=fun _=>some (([]:List S44),(-1:Int))) (fun k=>by simp only [impl_LogAdd.j0];rfl) (evnow _)
 unfold impl_LogAdd.f logAddV
 refine Ev.bind (log_f l hw) ?_
 cases hb:logB l with
 | false=>exact ev_neg (by decide) j0t
 | true =>
  have h40:=logB_len hb
  refine ev_pos rfl (Ev.bind (ent_f e he) ?_)
  rw [if_pos rfl]
  cases hE:entB e with
  | false=>exact j0t
  | true =>
   have hwho:=entB_who hE
   have hc:=cntE_le l e.f0
   have w1:wrap64 (cntE l e.f0+1)=cntE l e.f0+1:=wrapS _ hc.1 (by omega)
   have hS:Ev (fun k=>impl_LogSeq.f k l e.f0) (cntE l e.f0):=by
    unfold impl_LogSeq.f
    have:=log_f l hw
    rw [hb] at this
    exact Ev.bind this (ev_pos rfl (ev_pos ⟨by omega,by omega⟩ (evnow _)))
   rw [if_pos rfl]
   refine Ev.step (fun k=>by simp only [impl_LogAdd.j0];rfl) ?_
   refine ev_neg (by decide) ?_
   unfold impl_Entry_85.f addV
   rw [if_pos (by omega)]
   simp only [Option.bind_some]
   refine Ev.bind (ihas_f l e (by omega)) ?_
   cases hasE l e with
   | true=>exact ev_pos rfl (evnow _)
   | false =>
    refine ev_neg (by decide) (Ev.bind hS ?_)
    rw [w1,if_neg (show ¬ (false=true) by decide)]
    by_cases h1:e.f1=cntE l e.f0+1
    ·refine ev_pos h1 ?_
     rw [if_pos h1]
     by_cases h2:(l.length:Int)≥40
     ·refine ev_pos h2 ?_
      rw [if_pos h2]
      exact evnow _
     ·refine ev_neg h2 ?_
      rw [if_neg h2]
      exact ev_pos (by omega) (evnow _)
    ·refine ev_neg h1 ?_
     rw [if_neg h1]
     exact evnow _
theorem addV_len (l:List S44) (e:S44):(addV l e).1.length≤l.length+1:=by
 unfold addV
 split
 ·exact Nat.le_succ _
 ·split
  ·split
   ·exact Nat.le_succ _
   ·simp
  ·exact Nat.le_succ _
theorem one_size (xs:List Int):(strOfNums xs).size=xs.length:=by simp [strOfNums,ByteArray.size]
theorem mtl_ex (m:Nat):∀ (x:Int) (s:ByteArray),x < 10 ^ m→x≤9223372036854775807→s.size+m+1≤9223372036854775807→∃ r,Ev (fun k=>laws_markText.l0 k x s) r:=by
 induction m with
 | zero =>
  intro x s hx _ hs
  refine ⟨_,Ev.step (f:=fun _=>some ((⟨#[109]⟩:ByteArray)++s)) (fun k=>?_) (evnow _)⟩
  simp only [laws_markText.l0]
  rw [if_neg (by simp at hx;omega),if_pos (by omega)]
 | succ m ih =>
  intro x s hx hb hs
  by_cases h0:x > 0
  ·have e:Int.tdiv x 10=x / 10:=Int.tdiv_eq_ediv_of_nonneg (by omega)
   have e2:wrap64 (Int.tdiv x 10)=x / 10:=by rw [e];unfold wrap64;omega
   have e3:(10:Int) ^ (m+1)=10 ^ m * 10:=Int.pow_succ 10 m
   obtain ⟨r,hr⟩:=ih (wrap64 (Int.tdiv x 10)) ((strOfNums [(wrap64 (48+(Int.tmod x 10))) % 256])++s) (by rw [e2];omega) (by rw [e2];omega) (by rw [ByteArray.size_append,one_size];simp;omega)
   refine ⟨r,Ev.step (fun k=>?_) hr⟩
   simp only [laws_markText.l0,Option.bind_some]
   rw [if_pos h0,if_pos (by rw [one_size];simp;omega)]
  ·refine ⟨_,Ev.step (f:=fun _=>some ((⟨#[109]⟩:ByteArray)++s)) (fun k=>?_) (evnow _)⟩
   simp only [laws_markText.l0]
   rw [if_neg h0,if_pos (by omega)]
theorem mt_ex (x:Int) (h:x≤4611686018427387904):∃ r,Ev (fun k=>laws_markText.f k x) r:=by
 by_cases h0:x≤0
 ·exact ⟨(⟨#[109,48]⟩:ByteArray),Ev.congr (f:=fun _=>some (⟨#[109,48]⟩:ByteArray)) (fun k=>by simp only [laws_markText.f];rw [if_pos h0]) (evnow _)⟩
 ·obtain ⟨r,hr⟩:=mtl_ex 19 x ⟨#[]⟩ (by omega) (by omega) (by decide)
  exact ⟨r,Ev.congr (fun k=>by simp only [laws_markText.f];rw [if_neg h0]) hr⟩
open Classical in
noncomputable def mt (x:Int):ByteArray:=if h:x≤4611686018427387904 then (mt_ex x h).choose else ⟨#[]⟩
theorem mt_ev (x:Int) (h:x≤4611686018427387904):Ev (fun k=>laws_markText.f k x) (mt x):=by
 unfold mt
 rw [dif_pos h]
 exact (mt_ex x h).choose_spec

theorem take_set_next {α:Type} (x:List α) (i:Int) (v:α) (h0:0≤i) (h:i < x.length):(x.set i.toNat v).take (i+1).toNat=x.take i.toNat++[v]:=by
 have e:(i+1).toNat=i.toNat+1:=by omega
 have hl:i.toNat < (x.set i.toNat v).length:=by rw [List.length_set];omega
 rw [e,List.take_succ_eq_append_getElem hl,List.getElem_set_self]
 congr 1
 rw [List.take_set_of_le (Nat.le_refl _)]
theorem set_set_ {α:Type} (x:List α) (i:Nat) (v u:α):(x.set i v).set i u=x.set i u:=by rw [List.set_set]
noncomputable def mkE (a:Int):S44:=⟨a,a+1,⟨a+2,a+3,a+4,a+5,mt (a+6)⟩⟩
noncomputable def marksE:Int→Nat→List S44
 | _,0=>[]
 | a,n+1=>mkE a::marksE (a+7) n
theorem marksE_len:∀ (n:Nat) (a:Int),(marksE a n).length=n
 | 0,_=>rfl
 | n+1,a=>by rw [marksE,List.length_cons,marksE_len n]
theorem rdE_set (x:List S44) (i:Int) (v:S44) (h0:0≤i) (h:i < x.length):rd_T44 (x.set i.toNat v) i=v:=by
 unfold rd_T44
 rw [List.getD_eq_getElem?_getD,List.getElem?_set_self (by omega)]
 rfl
theorem markE_ev (d:Nat):∀ (x:List S44) (a i:Int),0≤i→(x.length:Int) - i=d→x.length≤1099511627776→0≤a→a+7 * d≤1152921504606846976 →
  Ev (fun k=>laws_markEntryS.l0 k x a i) (a+7 * d,x.take i.toNat++marksE a d):=by
 induction d with
 | zero =>
  intro x a i h0 hd hl ha hb
  refine Ev.step (f:=fun _=>some (a,x)) (fun k=>?_) ?_
  ·simp only [laws_markEntryS.l0];rw [if_neg (by omega)]
  ·rw [List.take_of_length_le (by omega)];simp only [marksE,List.append_nil]
   rw [show a+7 * ((0:Nat):Int)=a by omega];exact evnow _
 | succ d ih =>
  intro x a i h0 hd hl ha hb
  have hi:i < (x.length:Int):=by omega
  have e1:wrap64 (a+1)=a+1:=wrapS a ha (by omega)
  have e2:wrap64 (a+1+1)=a+2:=by rw [wrapS _ (by omega) (by omega)];omega
  have e3:wrap64 (a+2+1)=a+3:=by rw [wrapS _ (by omega) (by omega)];omega
  have e4:wrap64 (a+3+1)=a+4:=by rw [wrapS _ (by omega) (by omega)];omega
  have e5:wrap64 (a+4+1)=a+5:=by rw [wrapS _ (by omega) (by omega)];omega
  have e6:wrap64 (a+5+1)=a+6:=by rw [wrapS _ (by omega) (by omega)];omega
  have e7:wrap64 (a+6+1)=a+7:=by rw [wrapS _ (by omega) (by omega)];omega
  have ei:wrap64 (i+1)=i+1:=wrapS i h0 (by omega)
  have H:=ih (x.set i.toNat (mkE a)) (a+7) (i+1) (by omega) (by rw [List.length_set];omega) (by rw [List.length_set];omega) (by omega) (by omega)
  rw [take_set_next x i _ h0 hi,show a+7+7 * (d:Int)=a+7 * ((d+1:Nat):Int) by omega,List.append_assoc] at H
  refine Ev.step (f:=fun k=>(laws_markText.f k (a+6)).bind fun t=>laws_markEntryS.l0 k (x.set i.toNat ⟨a,a+1,⟨a+2,a+3,a+4,a+5,t⟩⟩) (a+7) (i+1)) (fun k=>?_) (Ev.bind (mt_ev _ (by omega)) H)
  simp only [laws_markEntryS.l0,if_pos hi,if_pos h0,Option.bind_some,set_set_,rdE_set _ _ _ h0 hi,e1,e2,e3,e4,e5,e6,e7,ei]
theorem heldE_ev (d:Nat):∀ (x:List S44) (a i:Int),0≤i→(x.length:Int) - i=d→x.length≤1099511627776→0≤a→a+7 * d≤1152921504606846976→x.drop i.toNat=marksE a d →
  Ev (fun k=>laws_heldEntryS.l0 k x a i) (a+7 * d):=by
 induction d with
 | zero =>
  intro x a i h0 hd hl ha hb he
  refine Ev.step (f:=fun _=>some a) (fun k=>?_) ?_
  ·simp only [laws_heldEntryS.l0];rw [if_neg (by omega)]
  ·rw [show a+7 * ((0:Nat):Int)=a by omega];exact evnow _
 | succ d ih =>
  intro x a i h0 hd hl ha hb he
  have hi:i < (x.length:Int):=by omega
  have e1:wrap64 (a+1)=a+1:=wrapS a ha (by omega)
  have e2:wrap64 (a+1+1)=a+2:=by rw [wrapS _ (by omega) (by omega)];omega
  have e3:wrap64 (a+2+1)=a+3:=by rw [wrapS _ (by omega) (by omega)];omega
  have e4:wrap64 (a+3+1)=a+4:=by rw [wrapS _ (by omega) (by omega)];omega
  have e5:wrap64 (a+4+1)=a+5:=by rw [wrapS _ (by omega) (by omega)];omega
  have e6:wrap64 (a+5+1)=a+6:=by rw [wrapS _ (by omega) (by omega)];omega
  have e7:wrap64 (a+6+1)=a+7:=by rw [wrapS _ (by omega) (by omega)];omega
  have ei:wrap64 (i+1)=i+1:=wrapS i h0 (by omega)
  have hn:i.toNat < x.length:=by omega
  have hc:=List.drop_eq_getElem_cons hn
  rw [he,marksE] at hc
  have hx:rd_T44 x i=mkE a:=by
   unfold rd_T44
   rw [List.getD_eq_getElem?_getD,List.getElem?_eq_getElem hn]
   exact (List.cons.inj hc).1.symm
  have H:=ih x (a+7) (i+1) (by omega) (by omega) hl (by omega) (by omega) (by rw [show (i+1).toNat=i.toNat+1 by omega];exact (List.cons.inj hc).2.symm)
  rw [show a+7+7 * (d:Int)=a+7 * ((d+1:Nat):Int) by omega] at H
  refine Ev.step (f:=fun k=>(laws_markText.f k (a+6)).bind fun t=>if (mt (a+6)).toList=t.toList then laws_heldEntryS.l0 k x (a+7) (i+1) else some (-1)) (fun k=>?_) (Ev.bind (mt_ev _ (by omega)) (Ev.congr (fun k=>if_pos rfl) H))
  simp only [laws_heldEntryS.l0]
  rw [if_pos hi,if_pos h0,e1,e2,e3,e4,e5,e6,e7,ei,hx]
  simp only [mkE,if_true]
  rfl
theorem markE_f (x:List S44) (a:Int) (hl:x.length≤1099511627776) (ha:0≤a) (hb:a≤1125899906842624) :
  Ev (fun k=>laws_markEntryS.f k x a) (a+7 * x.length,marksE a x.length):=by
 have h:=markE_ev x.length x a 0 (by omega) (by omega) hl ha (by omega)
 simp only [Int.toNat_zero,List.take_zero,List.nil_append] at h
 exact h
theorem heldE_f (n:Nat) (a:Int) (hl:n≤1099511627776) (ha:0≤a) (hb:a≤1125899906842624) :
  Ev (fun k=>laws_heldEntryS.f k (marksE a n) a) (a+7 * n) :=
 heldE_ev n (marksE a n) a 0 (by omega) (by rw [marksE_len];omega) (by rw [marksE_len];exact hl) ha (by omega) rfl
theorem eqOp_refl (a b c d:Int) (e:ByteArray):laws_eqOp.f a b c d e a b c d e=some true:=by simp [laws_eqOp.f]
theorem eqEntry_refl (x y a b c d:Int) (e:ByteArray):laws_eqEntry.f x y a b c d e x y a b c d e=some true:=by simp [laws_eqEntry.f,eqOp_refl]
theorem eqE_ev (d:Nat):∀ (x:List S44) (i:Int),0≤i→(x.length:Int) - i=d→x.length≤1099511627776→Ev (fun k=>laws_eqEntryS.l0 k x x i) true:=by
 induction d with
 | zero =>
  intro x i h0 hd hl
  refine Ev.step (f:=fun _=>some true) (fun k=>?_) (evnow _)
  simp only [laws_eqEntryS.l0];rw [if_neg (by omega)]
 | succ d ih =>
  intro x i h0 hd hl
  have hi:i < (x.length:Int):=by omega
  refine Ev.step (fun k=>?_) (ih x (i+1) (by omega) (by omega) hl)
  simp only [laws_eqEntryS.l0,if_pos hi,if_pos h0,eqEntry_refl,Option.bind_some,if_true,wrapS i h0 (by omega)]
theorem eqE (x:List S44) (hl:x.length≤1099511627776):Ev (fun k=>laws_eqEntryS.f k x x) true :=
 Ev.congr (fun k=>by simp only [laws_eqEntryS.f,if_true]) (eqE_ev x.length x 0 (by omega) (by omega) hl)
def conv (e:S36):S44:=⟨e.f0,e.f1,⟨e.f2.f0,e.f2.f1,e.f2.f2,e.f2.f3,e.f2.f4⟩⟩
def wfX (e:S36):Prop:=I64 e.f0∧I64 e.f1∧I64 e.f2.f0∧I64 e.f2.f1∧I64 e.f2.f2∧I64 e.f2.f3∧e.f2.f4.size≤9223372036854775807
theorem rdX_get (l:List S36) (i:Nat) (h:i < l.length):rd_T36 l i=l[i]:=by
 unfold rd_T36
 rw [List.getD_eq_getElem?_getD,show ((i:Int)).toNat=i from rfl,List.getElem?_eq_getElem h]
 rfl
theorem wf_conv {l:List S36} (h:∀ e∈l,wfX e):wfL (l.map conv):=by
 intro e he
 obtain ⟨x,hx,rfl⟩:=List.mem_map.1 he
 exact h x hx
theorem sz_l0 (l:List S36) (hw:∀ e∈l,wfX e) (hl:l.length≤1099511627776):∀ (n:Nat) (i:Nat) (b:Int),i+n=l.length→0≤b→b≤1048576→∃ r:Int,Ev (fun k=>laws_szEntryS.l0 k l b i) r
 | 0,i,b,h,h0,h1=>⟨b,Ev.step (f:=fun _=>some b) (fun k=>by simp only [laws_szEntryS.l0];rw [if_neg (by omega)]) (evnow _)⟩
 | n+1,i,b,h,h0,h1=>by
  have hi:i < l.length:=by omega
  obtain ⟨_,_,_,_,_,_,hs⟩:=hw _ (List.getElem_mem hi)
  have hww:wrap64 (b - (l[i].f2.f4.size:Int))=b - l[i].f2.f4.size:=by unfold wrap64;omega
  by_cases hb:b - (l[i].f2.f4.size:Int) < 0
  ·refine ⟨-1,Ev.step (f:=fun _=>some (-1)) (fun k=>?_) (evnow _)⟩
   simp only [laws_szEntryS.l0]
   rw [if_pos (by omega),if_pos (by omega),rdX_get l i hi]
   simp only [laws_szEntry.f,laws_szOp.f,hww]
   rw [if_pos hb]
   rfl
  ·obtain ⟨r,hr⟩:=sz_l0 l hw hl n (i+1) (b - l[i].f2.f4.size) (by omega) (by omega) (by omega)
   refine ⟨r,Ev.step (fun k=>?_) hr⟩
   simp only [laws_szEntryS.l0]
   rw [if_pos (by omega),if_pos (by omega),rdX_get l i hi]
   simp only [laws_szEntry.f,laws_szOp.f,hww]
   rw [if_neg hb]
   simp only [Option.bind_some]
   rw [if_neg hb]
   simp only [Option.bind_some]
   rw [if_neg hb,wrapS i (by omega) (by omega)]
   rfl
theorem to_l0 (l:List S36) (hl:l.length≤1099511627776):∀ (n:Nat) (i:Nat) (x:List S44),i+n=l.length→x.length=l.length→x.take i=(l.take i).map conv→Ev (fun k=>laws_toEntryS.l0 k l x i) (l.map conv)
 | 0,i,x,h,hx,ht=>by
  refine Ev.step (f:=fun _=>some x) (fun k=>?_) ?_
  ·simp only [laws_toEntryS.l0];rw [if_neg (by omega)]
  ·rw [List.take_of_length_le (by omega),List.take_of_length_le (by omega)] at ht
   rw [ht];exact evnow _
 | n+1,i,x,h,hx,ht=>by
  have hi:i < l.length:=by omega
  refine Ev.step (fun k=>?_) (to_l0 l hl n (i+1) (x.set i (conv l[i])) (by omega) (by rw [List.length_set];exact hx) ?_)
  ·simp only [laws_toEntryS.l0]
   rw [if_pos (by omega),if_pos (by omega),rdX_get l i hi]
   simp only [laws_toEntry.f,laws_toOp.f,Option.bind_some]
   rw [if_pos (by omega),wrapS i (by omega) (by omega)]
   rfl
  ·have:=take_set_next x (i:Int) (conv l[i]) (by omega) (by omega)
   simp only [Int.toNat_natCast] at this
   rw [show ((i:Int)+1).toNat=i+1 by omega] at this
   rw [this,ht,List.take_succ_eq_append_getElem hi,List.map_append]
   rfl
theorem sz_f (l:List S36) (s:Int) (u:Bool) (hw:∀ e∈l,wfX e) (hl:l.length≤9223372036854775807):∃ r:Int,Ev (fun k=>laws_szServer.f k l s u 1048576) r∧(¬ r < 0→l.length≤1048576):=by
 unfold laws_szServer.f laws_szEntryS.f
 have hww:wrap64 (1048576 - (l.length:Int))=1048576 - l.length:=by unfold wrap64;omega
 rw [hww]
 by_cases hb:1048576 - (l.length:Int) < 0
 ·refine ⟨-1,?_,fun h=>absurd (by decide) h⟩
  simp only [hb,if_true,Option.bind_some]
  exact evnow _
 ·obtain ⟨r,hr⟩:=sz_l0 l hw (by omega) l.length 0 (1048576 - l.length) (by omega) (by omega) (by omega)
  simp only [hb,if_false]
  by_cases h2:r < 0
  ·refine ⟨-1,Ev.bind hr ?_,fun h=>absurd (by decide) h⟩
   simp only [h2,if_true]
   exact evnow _
  ·refine ⟨r,Ev.bind hr ?_,fun _=>by omega⟩
   simp only [h2,if_false]
   exact evnow _
theorem to_f (l:List S36) (s:Int) (u:Bool) (hl:l.length≤1048576):Ev (fun k=>laws_toServer.f k l s u) (l.map conv,s,u):=by
 unfold laws_toServer.f laws_toEntryS.f
 refine Ev.bind (a:=l.map conv) ?_ (evnow _)
 refine ev_pos (by omega) (ev_pos (by omega) ?_)
 exact to_l0 l (by omega) l.length 0 _ (by omega) (by simp) (by simp)
def srvB (l:List S44) (s:Int):Bool:=logB l&&(decide (0≤s)&&decide (s≤(l.length:Int)))
theorem srv_f (l:List S44) (s:Int) (u:Bool) (h:wfL l):Ev (fun k=>impl_ServerOk.f k l s u) (srvB l s):=by
 unfold impl_ServerOk.f srvB
 refine Ev.bind (log_f l h) ?_
 cases logB l with
 | false=>simp only [Bool.false_eq_true,if_false,Bool.false_and];exact evnow _
 | true =>
  simp only [if_true,Bool.true_and]
  by_cases hs:s≥0
  ·have:decide (0≤s)=true:=dt_ hs
   rw [if_pos hs,this,Bool.true_and];exact evnow _
  ·have:decide (0≤s)=false:=df_ hs
   rw [if_neg hs,this,Bool.false_and];exact evnow _
theorem ssrv_f (l:List S44) (s:Int) (u:Bool) (h:wfL l) (hl:l.length≤281474976710656):Ev (fun k=>spec_ServerOk.f k l s u) (srvB l s):=by
 unfold spec_ServerOk.f srvB
 refine Ev.bind (slog_f l h hl) ?_
 cases logB l with
 | false=>simp only [Bool.false_eq_true,if_false,Bool.false_and];exact evnow _
 | true =>
  simp only [if_true,Bool.true_and,in_f,Option.bind_some]
  exact evnow _
theorem srvB_true {l:List S44} {s:Int} (h:srvB l s=true):l.length≤40∧0≤s∧s≤l.length:=by
 unfold srvB at h
 simp only [Bool.and_eq_true,decide_eq_true_eq] at h
 exact ⟨logB_len h.1,h.2.1,h.2.2⟩
def hearV (l:List S44) (s:Int) (u:Bool) (e:S44):List S44×Int×Bool×Bool :=
 if srvB l s=true then (if entB e=true then (if u=true then (if (addV l e).2=1 then ((addV l e).1,s,true,true) else (l,s,true,false)) else (l,s,false,false)) else ([],0,false,false)) else ([],0,false,false)
theorem srvB_log {l:List S44} {s:Int} (h:srvB l s=true):logB l=true:=by
 unfold srvB at h
 rw [Bool.and_eq_true] at h
 exact h.1
theorem ihear_f (l:List S44) (s:Int) (u:Bool) (e:S44) (hw:wfL l) (he:wfE e):Ev (fun k=>impl_ServerHear.f k l s u e.f0 e.f1 e.f2.f0 e.f2.f1 e.f2.f2 e.f2.f3 e.f2.f4) (hearV l s u e):=by
 have hn:=addV_len l e
 unfold impl_ServerHear.f hearV
 refine Ev.bind (srv_f l s u hw) ?_
 cases hs:srvB l s with
 | false=>exact ev_neg (by decide) (evnow _)
 | true =>
  have h40:=(srvB_true hs).1
  refine ev_pos rfl (Ev.bind (ent_f e he) ?_)
  rw [if_pos rfl]
  cases hE:entB e with
  | false=>exact ev_neg (by decide) (evnow _)
  | true =>
   refine ev_pos rfl (ev_pos (by omega) ?_)
   rw [if_pos rfl]
   cases u with
   | false=>exact ev_neg (by decide) (evnow _)
   | true =>
    have hA:=ilogAdd_f l e hw he
    unfold logAddV at hA
    rw [if_pos (srvB_log hs),if_pos hE] at hA
    rw [if_pos rfl]
    refine ev_pos rfl (Ev.bind hA ?_)
    by_cases h1:(addV l e).2=1
    ·refine ev_pos h1 (ev_pos (by omega) ?_)
     rw [if_pos h1]
     exact evnow _
    ·refine ev_neg h1 ?_
     rw [if_neg h1]
     exact evnow _
theorem shear_f (l:List S44) (s:Int) (u:Bool) (e:S44) (hw:wfL l) (he:wfE e) (hl:l.length≤1099511627776):Ev (fun k=>spec_ServerHear.f k l s u e.f0 e.f1 e.f2.f0 e.f2.f1 e.f2.f2 e.f2.f3 e.f2.f4) (hearV l s u e):=by
 have j0t:Ev (fun k=>spec_ServerHear.j0 k true l s u e.f0 e.f1 e.f2.f0 e.f2.f1 e.f2.f2 e.f2.f3 e.f2.f4) (([]:List S44),(0:Int),false,false):=Ev.step (f:=fun _=>some (([]:List S44),(0:Int),false,false)) (fun k=>by simp only [spec_ServerHear.j0];rfl) (evnow _)
 unfold spec_ServerHear.f hearV
 refine Ev.bind (ssrv_f l s u hw (by omega)) ?_
 cases hs:srvB l s with
 | false=>exact ev_neg (by decide) j0t
 | true =>
  have h40:=(srvB_true hs).1
  refine ev_pos rfl (Ev.bind (sent_f e he) ?_)
  rw [if_pos rfl]
  cases hE:entB e with
  | false=>exact j0t
  | true =>
   rw [if_pos rfl]
   refine Ev.step (fun k=>by simp only [spec_ServerHear.j0];rfl) ?_
   refine ev_neg (by decide) ?_
   unfold spec_l13Copy.f spec_l13Hear.f
   simp only [Option.bind_some,List.nil_append,List.length_nil]
   rw [if_pos (by omega)]
   simp only [Option.bind_some]
   refine Ev.bind (a:=(if u=true then (if (addV l e).2=1 then ((addV l e).1,s,true,true) else (l,s,true,false)) else (l,s,false,false))) (Ev.bind (add_f l e hl) ?_) ?_
   ·cases u with
    | false=>exact ev_neg (by decide) (evnow _)
    | true =>
     refine ev_pos rfl ?_
     rw [if_pos rfl]
     by_cases h1:(addV l e).2=1
     ·refine ev_pos h1 ?_;rw [if_pos h1];exact evnow _
     ·refine ev_neg h1 ?_;rw [if_neg h1];exact evnow _
   ·exact evnow _
theorem eqS_f (l:List S44) (s:Int) (u:Bool) (hl:l.length≤1099511627776):Ev (fun k=>laws_eqServer.f k l s u l s u) true:=by
 unfold laws_eqServer.f
 refine Ev.bind (eqE l hl) ?_
 simp only [if_true,bne_self_eq_false,Bool.false_eq_true,if_false]
 exact evnow _
theorem markS_f (l:List S44) (s:Int) (u:Bool) (a:Int) (hl:l.length≤1099511627776) (ha:0≤a) (hb:a≤1125899906842624):Ev (fun k=>laws_markServer.f k l s u a) (a+7 * l.length,marksE a l.length):=by
 unfold laws_markServer.f
 exact Ev.bind (markE_f l a hl ha hb) (evnow _)
theorem heldS_f (n:Nat) (s:Int) (u:Bool) (a:Int) (hl:n≤1099511627776) (ha:0≤a) (hb:a≤1125899906842624):Ev (fun k=>laws_heldServer.f k (marksE a n) s u a) (a+7 * n):=by
 unfold laws_heldServer.f
 refine Ev.bind (heldE_f n a hl ha hb) ?_
 refine ev_neg (by omega) ?_
 exact evnow _
theorem szEnt_ex (e:S36) (r:Int):∃ q,laws_szEntry.f e.f0 e.f1 e.f2.f0 e.f2.f1 e.f2.f2 e.f2.f3 e.f2.f4 r=some q:=by
 unfold laws_szEntry.f laws_szOp.f
 by_cases h:wrap64 (r - (e.f2.f4.size:Int)) < 0
 ·rw [if_pos h];exact ⟨-1,rfl⟩
 ·rw [if_neg h]
  simp only [Option.bind_some]
  rw [if_neg h]
  exact ⟨_,rfl⟩
theorem toEnt_eq (e:S36):laws_toEntry.f e.f0 e.f1 e.f2.f0 e.f2.f1 e.f2.f2 e.f2.f3 e.f2.f4=some ((conv e).f0,(conv e).f1,(conv e).f2.f0,(conv e).f2.f1,(conv e).f2.f2,(conv e).f2.f3,(conv e).f2.f4):=rfl
theorem hearV_len2 (l:List S44) (s:Int) (u:Bool) (e:S44):(hearV l s u e).1.length≤l.length+1:=by
 have:=addV_len l e
 unfold hearV
 split
 ·split
  ·split
   ·split
    ·exact this
    ·exact Nat.le_succ _
   ·exact Nat.le_succ _
  ·simp
 ·simp
theorem FnExactServerHear (l:List S36) (s:Int) (u:Bool) (e:S36) (hw:∀ x∈l,wfX x) (hl:l.length≤9223372036854775807) (he:wfX e):∃ k,laws_FnExactServerHear.f k l s u e.f0 e.f1 e.f2.f0 e.f2.f1 e.f2.f2 e.f2.f3 e.f2.f4=some true:=by
 suffices h:Ev (fun k=>laws_FnExactServerHear.f k l s u e.f0 e.f1 e.f2.f0 e.f2.f1 e.f2.f2 e.f2.f3 e.f2.f4) true by obtain ⟨K,h⟩:=h;exact ⟨K,h K (Nat.le_refl K)⟩
 obtain ⟨r,hr,hb⟩:=sz_f l s u hw hl
 unfold laws_FnExactServerHear.f
 refine Ev.bind hr ?_
 by_cases h0:r < 0
 ·exact ev_pos h0 (evnow _)
 ·refine ev_neg h0 ?_
  obtain ⟨q,hq⟩:=szEnt_ex e r
  rw [hq]
  simp only [Option.bind_some]
  by_cases q0:q < 0
  ·exact ev_pos q0 (evnow _)
  ·refine ev_neg q0 ?_
   have hlen:=hb h0
   have hT:=to_f l s u hlen
   have hW:=wf_conv hw
   have hcl:(l.map conv).length≤1048576:=by rw [List.length_map];exact hlen
   have hE:wfE (conv e):=he
   have hS:=shear_f (l.map conv) s u (conv e) hW hE (by omega)
   have hI:=ihear_f (l.map conv) s u (conv e) hW hE
   have hvl:=hearV_len2 (l.map conv) s u (conv e)
   simp only [toEnt_eq,Option.bind_some]
   generalize hearV (l.map conv) s u (conv e)=v at *
   obtain ⟨v1,v2,v3,v4⟩:=v
   have hvl:v1.length≤(l.map conv).length+1:=hvl
   have hn2:¬ ((1:Int)+7 * (v1.length:Int) < 0):=by omega
   have hn3:¬ ((1:Int)+7 * ((l.map conv).length:Int) < 0):=by omega
   have he1:=eqS_f v1 v2 v3 (by omega)
   have he2:=eqS_f (l.map conv) s u (by omega)
   have hm1:=markS_f v1 v2 v3 1 (by omega) (by omega) (by omega)
   have hm2:=markS_f (l.map conv) s u 1 (by omega) (by omega) (by omega)
   have hh:=heldS_f v1.length v2 v3 1 (by omega) (by omega) (by omega)
   refine Ev.bind hT (Ev.bind hS (Ev.bind hT (Ev.bind hI (Ev.bind he1 (ev_pos rfl (ev_neg (by simp) ?_))))))
   refine Ev.bind hT (Ev.bind he2 (ev_pos rfl (Ev.bind hm2 (ev_neg hn3 (Ev.bind he1 (ev_pos rfl ?_))))))
   refine Ev.bind hm1 (Ev.bind hh (ev_neg hn2 (ev_pos rfl ?_)))
   refine Ev.bind hT (Ev.bind hI (Ev.bind he1 (ev_pos rfl (ev_neg (by simp) ?_))))
   exact Ev.bind hh (ev_neg hn2 (ev_pos rfl (evnow _)))
end Go.Proofs.YtdpklbomhdpimaaDoor.PL
namespace Go.Proofs.YtdpklbomhdpimaaDoor.P
open Go.ChangeShapes Go.WideShapes Go.ChangeAt Go.RowKit
theorem tOwners:(Tryd.prog.globals[0]?).map (·.type)=some 126:=by kernel_rfl
theorem cOwners:Tryd.prog.cellsOf 126=37:=by kernel_rfl
theorem cInt:Tryd.prog.cellsOf 3=1:=by kernel_rfl
abbrev ownCells:Array Value:=(owners.map fun z=>Value.int .i64 z).toArray
theorem glob_of_laid {W:World} (h:laidMet Tryd.prog [("loop.example/plashet/impl.rowOwners",Rows.laid_loop_example_plashet_impl_rowOwners)] W):Glob W :=
 Lib.tabIs_of_head gOwners tOwners Tryd.underlying126 Tryd.underlying3 cInt cOwners h
theorem door_met (os:Os) (args:Array Value):laidMet Tryd.prog [("loop.example/plashet/impl.rowOwners",Rows.laid_loop_example_plashet_impl_rowOwners)] ((World.doorLaid Tryd.prog 400 os).forCall (fun _ _=>0) ⟨#[],args,[]⟩).memory :=
 laidMet_of_run' 8 (by kernel_rfl) (by kernel_rfl)
abbrev tableH {H:Type}:DataW H:=.agg (owners.map fun z=>.lit (.int .i64 z))
theorem reads_table {H:Type} (enc:TypeId×Value→H) (W:World) (sp:Nat→Bool):DataW.trod enc Tryd.prog W 0 sp true 3 126 ownCells.toList=some (tableH,[]):=by kernel_rfl
theorem tab_vars {H:Type} (enc:TypeId×Value→H) {W:World} (h:Glob W) {sp:Nat→Bool}:DataW.TrodVars enc Tryd.prog W sp ["loop.example/plashet/impl.rowOwners"] [tableH] (MemPlace.row ⟨0,0,none⟩ ownCells.size++[]++[]) :=
 ⟨0,126,ownCells,3,[],[],gOwners,tOwners,h,reads_table enc W sp,rfl,rfl⟩
end Go.Proofs.YtdpklbomhdpimaaDoor.P
namespace Go.Proofs.YtdpklbomhdpimaaDoor.FP
open Go.Proofs.YtdpklbomhdpimaaDoor.P
inductive Fo where
 | nil
 | nd (i:Nat) (t:ByteArray) (k n:Fo)
structure Nd where
 t:ByteArray
 up:Nat
 first:Nat
 next:Nat
def Fo.hd:Fo→Nat
 | .nil=>0
 | .nd i _ _ _=>i
def Fo.ids:Fo→List Nat
 | .nil=>[]
 | .nd i _ k n=>i::(k.ids++n.ids)
def Fo.tops:Fo→List Nat
 | .nil=>[]
 | .nd i _ _ n=>i::n.tops
def Rep (h:Nat→Nd) (up:Nat):Fo→Prop
 | .nil=>True
 | .nd i t k n=>i≠0∧h i=⟨t,up,k.hd,n.hd⟩∧Rep h i k∧Rep h up n
def sub (x:Nat):Fo→Fo
 | .nil=>.nil
 | .nd j u k n=>if j=x then k else if x∈k.ids then sub x k else sub x n
theorem nodup_nd {j:Nat} {u:ByteArray} {k n:Fo} (h:(Fo.nd j u k n).ids.Nodup):j∉k.ids∧j∉n.ids∧k.ids.Nodup∧n.ids.Nodup∧(∀ x∈k.ids,x∉n.ids):=by
 simp only [Fo.ids,List.nodup_cons,List.nodup_append,List.mem_append,not_or] at h
 exact ⟨h.1.1,h.1.2,h.2.1,h.2.2.1,fun x hx hn=>h.2.2.2 x hx x hn rfl⟩
def RepTop (h:Nat→Nd):Fo→Prop
 | .nil=>True
 | .nd i t k n=>i≠0∧h i=⟨t,0,k.hd,0⟩∧Rep h i k∧RepTop h n
theorem tops_ids:∀ {F:Fo} {x:Nat},x∈F.tops→x∈F.ids
 | .nil,x,h=>by cases h
 | .nd j t k n,x,h=>by
  simp only [Fo.tops,List.mem_cons] at h
  simp only [Fo.ids,List.mem_cons,List.mem_append]
  rcases h with h|h
  ·exact Or.inl h
  ·exact Or.inr (Or.inr (tops_ids h))
def sp:Nat→Fo→Nat
 | _,.nil=>0
 | 0,.nd i _ _ .nil=>i
 | e+1,.nd _ _ k .nil=>sp e k
 | e,.nd _ _ _ (.nd i t k n)=>sp e (.nd i t k n)
end Go.Proofs.YtdpklbomhdpimaaDoor.FP
namespace Go.Proofs.YtdpklbomhdpimaaDoor.P
open Go.RowKit Go.Proofs.YtdpklbomhdpimaaDoorW.PrintWords Go.Proofs.YtdpklbomhdpimaaDoorW.PrintLast Go.Proofs.YtdpklbomhdpimaaDoorW.PrintMore Go.Proofs.YtdpklbomhdpimaaDoor.FP
def pa (o:Option Nat):Option Addr:=o.map fun b=>⟨b,0,none⟩
theorem pa_some (b:Nat):pa (some b)=some ⟨b,0,none⟩:=rfl
def nodeC (A:Nat→Option Nat) (i:Nat) (x:Nd):Array Value:=#[.int .i64 (i:Int),.string x.t,.pointer (pa (A x.up)),.pointer (pa (A x.first)),.pointer (pa (A x.next))]
def tabC (A:Nat→Option Nat):Array Value:=((List.range 37).map fun i=>Value.pointer (pa (A i))).toArray
structure Mem (w:World) (n0 F:Nat) (A:Nat→Option Nat) (h:Nat→Nd):Prop where
 z:A 0=none
 rng:∀ i b,A i=some b→i < 37
 inj:∀ i j b,A i=some b→A j=some b→i=j
 ne:∀ i b,A i=some b→b≠F
 lo:∀ i b,A i=some b→n0≤b
 loF:n0≤F
 tab:w.heap[F]?=some (.cells (tabC A) 165 (0,0))
 nod:∀ i b,A i=some b→w.heap[b]?=some (.cells (nodeC A i (h i)) 168 (0,0))
 cu:∀ i,A i≠none→(h i).up=0∨A (h i).up≠none
 cf:∀ i,A i≠none→(h i).first=0∨A (h i).first≠none
 cn:∀ i,A i≠none→(h i).next=0∨A (h i).next≠none
theorem Mem.kept {w w':World} {n0 F:Nat} {A:Nat→Option Nat} {h:Nat→Nd} (m:Mem w n0 F A h) (hk:∀ b,b < w.heap.size→w'.heap[b]?=w.heap[b]?):Mem w' n0 F A h :=
 { m with tab:=(hk F (blk_lt m.tab)).trans m.tab,nod:=fun i b e=>(hk b (blk_lt (m.nod i b e))).trans (m.nod i b e) }
theorem Mem.below {w w':World} {n0 F:Nat} {A:Nat→Option Nat} {h:Nat→Nd} (m:Mem w n0 F A h) (hb:Below w.heap.size w w'):Mem w' n0 F A h:=m.kept fun b hl=>hb.block b hl
theorem Mem.alloc {w:World} {n0 F:Nat} {A:Nat→Option Nat} {h:Nat→Nd} (m:Mem w n0 F A h) (o:Obj):Mem (w.alloc o) n0 F A h:=m.kept fun b hl=>Below.heap_alloc w o b hl
theorem Mem.drew {w:World} {n0 F:Nat} {A:Nat→Option Nat} {h:Nat→Nd} (m:Mem w n0 F A h):Mem w.drew n0 F A h:=m.kept fun _ _=>rfl
theorem Mem.drewN {w:World} {n0 F:Nat} {A:Nat→Option Nat} {h:Nat→Nd} (m:Mem w n0 F A h) (n:Nat):Mem (w.drewN n) n0 F A h:=m.kept fun _ _=>rfl
theorem Mem.lt {w:World} {n0 F:Nat} {A:Nat→Option Nat} {h:Nat→Nd} (m:Mem w n0 F A h) {i b:Nat} (e:A i=some b):b < w.heap.size:=blk_lt (m.nod i b e)
theorem Mem.c0 {w:World} {n0 F:Nat} {A:Nat→Option Nat} {h:Nat→Nd} (m:Mem w n0 F A h) {i b:Nat} (e:A i=some b):w.cell? ⟨b,0,none⟩=some (.int .i64 (i:Int)):=(bC_ (m.nod i b e) 0).trans rfl
theorem Mem.c1 {w:World} {n0 F:Nat} {A:Nat→Option Nat} {h:Nat→Nd} (m:Mem w n0 F A h) {i b:Nat} (e:A i=some b):w.cell? ⟨b,1,none⟩=some (.string (h i).t):=(bC_ (m.nod i b e) 1).trans rfl
theorem Mem.c2 {w:World} {n0 F:Nat} {A:Nat→Option Nat} {h:Nat→Nd} (m:Mem w n0 F A h) {i b:Nat} (e:A i=some b):w.cell? ⟨b,2,none⟩=some (.pointer (pa (A (h i).up))):=(bC_ (m.nod i b e) 2).trans rfl
theorem Mem.c3 {w:World} {n0 F:Nat} {A:Nat→Option Nat} {h:Nat→Nd} (m:Mem w n0 F A h) {i b:Nat} (e:A i=some b):w.cell? ⟨b,3,none⟩=some (.pointer (pa (A (h i).first))):=(bC_ (m.nod i b e) 3).trans rfl
theorem Mem.c4 {w:World} {n0 F:Nat} {A:Nat→Option Nat} {h:Nat→Nd} (m:Mem w n0 F A h) {i b:Nat} (e:A i=some b):w.cell? ⟨b,4,none⟩=some (.pointer (pa (A (h i).next))):=(bC_ (m.nod i b e) 4).trans rfl
theorem tabC_get (A:Nat→Option Nat) (i:Nat) (hi:i < 37):(tabC A)[i]?=some (.pointer (pa (A i))):=by
 simp [tabC,hi]
theorem Mem.cF {w:World} {n0 F:Nat} {A:Nat→Option Nat} {h:Nat→Nd} (m:Mem w n0 F A h) (i:Nat) (hi:i < 37):w.cell? ⟨F,i,none⟩=some (.pointer (pa (A i))):=(bC_ m.tab i).trans (tabC_get A i hi)
def upN (h:Nat→Nd) (i:Nat) (x:Nd):Nat→Nd:=fun j=>if j=i then x else h j
theorem Mem.set {w:World} {n0 F:Nat} {A:Nat→Option Nat} {h:Nat→Nd} (m:Mem w n0 F A h) {i b:Nat} (e:A i=some b) (k:Nat) (v:Value) (x:Nd) (hx:(nodeC A i (h i)).setIfInBounds k v=nodeC A i x)
  (xu:x.up=0∨A x.up≠none) (xf:x.first=0∨A x.first≠none) (xn:x.next=0∨A x.next≠none):Mem (w.setCell ⟨b,k,none⟩ v) n0 F A (upN h i x) where
 z:=m.z
 rng:=m.rng
 inj:=m.inj
 ne:=m.ne
 lo:=m.lo
 loF:=m.loF
 tab:=blk_far m.tab (fun e2=>m.ne i b e e2.symm) v
 nod:=fun j c ec=>by
  unfold upN
  by_cases hj:j=i
  ·subst hj
   obtain rfl:c=b:=by rw [e] at ec;exact (sj_ ec).symm
   rw [if_pos rfl,←hx]
   exact blk_set (m.nod j c e) k v
  ·rw [if_neg hj]
   exact blk_far (m.nod j c ec) (fun (e2:c=b)=>hj (m.inj j i c ec (e2 ▸ e))) v
 cu:=fun j hj=>by unfold upN;split;exact xu;exact m.cu j hj
 cf:=fun j hj=>by unfold upN;split;exact xf;exact m.cf j hj
 cn:=fun j hj=>by unfold upN;split;exact xn;exact m.cn j hj
def upA (A:Nat→Option Nat) (i b:Nat):Nat→Option Nat:=fun j=>if j=i then some b else A j
theorem tabC_up (A:Nat→Option Nat) (i b:Nat) (hi:i < 37):(tabC A).setIfInBounds i (.pointer (some ⟨b,0,none⟩))=tabC (upA A i b):=by
 unfold tabC
 rw [List.setIfInBounds_toArray]
 congr 1
 apply List.ext_getElem (by simp)
 intro k h1 h2
 simp only [List.getElem_set,List.getElem_map,List.getElem_range,upA]
 by_cases hk:i=k
 ·rw [if_pos hk,if_pos hk.symm];rfl
 ·rw [if_neg hk,if_neg (fun e=>hk e.symm)]
theorem Mem.add {w:World} {n0 F:Nat} {A:Nat→Option Nat} {h:Nat→Nd} (m:Mem w n0 F A h) {i:Nat} (h0:i≠0) (hi:i < 37) (hA:A i=none) (hne:∀ j,A j≠none→(h j).up≠i∧(h j).first≠i∧(h j).next≠i) {b:Nat} {t:ByteArray} (hb:∀ j,A j≠some b) (hbF:b≠F) (hlo:n0≤b)
  (hnew:w.heap[b]?=some (.cells #[.int .i64 (i:Int),.string t,.pointer none,.pointer none,.pointer none] 168 (0,0))) :
  Mem (w.setCell ⟨F,i,none⟩ (.pointer (some ⟨b,0,none⟩))) n0 F (upA A i b) (upN h i ⟨t,0,0,0⟩) where
 z:=by unfold upA;rw [if_neg (fun e=>h0 e.symm)];exact m.z
 rng:=fun j c e=>by
  unfold upA at e
  by_cases hj:j=i
  ·rw [hj];exact hi
  ·rw [if_neg hj] at e;exact m.rng j c e
 inj:=fun j k c ej ek=>by
  unfold upA at ej ek
  by_cases hj:j=i
  ·by_cases hk:k=i
   ·rw [hj,hk]
   ·rw [if_pos hj] at ej;rw [if_neg hk] at ek
    exact absurd (ek.trans ej.symm) (hb k)
  ·by_cases hk:k=i
   ·rw [if_neg hj] at ej;rw [if_pos hk] at ek
    exact absurd (ej.trans ek.symm) (hb j)
   ·rw [if_neg hj] at ej;rw [if_neg hk] at ek
    exact m.inj j k c ej ek
 ne:=fun j c e=>by
  unfold upA at e
  by_cases hj:j=i
  ·rw [if_pos hj] at e;rw [←sj_ e];exact hbF
  ·rw [if_neg hj] at e;exact m.ne j c e
 lo:=fun j c e=>by
  unfold upA at e
  by_cases hj:j=i
  ·rw [if_pos hj] at e;rw [←sj_ e];exact hlo
  ·rw [if_neg hj] at e;exact m.lo j c e
 loF:=m.loF
 tab:=by
  rw [←tabC_up A i b hi]
  exact blk_set m.tab i _
 nod:=fun j c e=>by
  have hF:∀ {c:Nat} {cs:Array Value} {t:TypeId},c≠F→w.heap[c]?=some (.cells cs t (0,0))→(w.setCell ⟨F,i,none⟩ (.pointer (some ⟨b,0,none⟩))).heap[c]?=some (.cells cs t (0,0)):=fun hc hh=>blk_far hh (p:=⟨F,i,none⟩) hc _
  unfold upA at e
  by_cases hj:j=i
  ·rw [if_pos hj] at e
   obtain rfl:=sj_ e
   subst hj
   have:nodeC (upA A j b) j (upN h j ⟨t,0,0,0⟩ j)=#[.int .i64 (j:Int),.string t,.pointer none,.pointer none,.pointer none]:=by
    have h0':¬ (0=j):=fun e=>h0 e.symm
    simp [nodeC,upN,upA,h0',m.z,pa]
   rw [this]
   exact hF hbF hnew
  ·rw [if_neg hj] at e
   have hn:=m.nod j c e
   have e2:nodeC (upA A i b) j (upN h i ⟨t,0,0,0⟩ j)=nodeC A j (h j):=by
    obtain ⟨n1,n2,n3⟩:=hne j (by rw [e];simp)
    unfold nodeC upN upA
    rw [if_neg hj,if_neg n1,if_neg n2,if_neg n3]
   rw [e2]
   exact hF (m.ne j c e) hn
 cu:=fun j hj=>by
  unfold upN
  by_cases hji:j=i
  ·rw [if_pos hji];exact Or.inl rfl
  ·rw [if_neg hji]
   have hj':A j≠none:=by unfold upA at hj;rw [if_neg hji] at hj;exact hj
   rcases m.cu j hj' with h1|h1
   ·exact Or.inl h1
   ·right;unfold upA;split;simp;exact h1
 cf:=fun j hj=>by
  unfold upN
  by_cases hji:j=i
  ·rw [if_pos hji];exact Or.inl rfl
  ·rw [if_neg hji]
   have hj':A j≠none:=by unfold upA at hj;rw [if_neg hji] at hj;exact hj
   rcases m.cf j hj' with h1|h1
   ·exact Or.inl h1
   ·right;unfold upA;split;simp;exact h1
 cn:=fun j hj=>by
  unfold upN
  by_cases hji:j=i
  ·rw [if_pos hji];exact Or.inl rfl
  ·rw [if_neg hji]
   have hj':A j≠none:=by unfold upA at hj;rw [if_neg hji] at hj;exact hj
   rcases m.cn j hj' with h1|h1
   ·exact Or.inl h1
   ·right;unfold upA;split;simp;exact h1
theorem nodeC_3 (A:Nat→Option Nat) (i:Nat) (x:Nd) (u:Nat):(nodeC A i x).setIfInBounds 3 (.pointer (pa (A u)))=nodeC A i ⟨x.t,x.up,u,x.next⟩:=rfl
theorem Mem.setF {w:World} {n0 F:Nat} {A:Nat→Option Nat} {h:Nat→Nd} (m:Mem w n0 F A h) {i b:Nat} (e:A i=some b) (u:Nat) (hu:u=0∨A u≠none):Mem (w.setCell ⟨b,3,none⟩ (.pointer (pa (A u)))) n0 F A (upN h i ⟨(h i).t,(h i).up,u,(h i).next⟩) :=
 m.set e 3 _ _ (nodeC_3 A i (h i) u) (m.cu i (by rw [e];simp)) hu (m.cn i (by rw [e];simp))
end Go.Proofs.YtdpklbomhdpimaaDoor.P
namespace Go.Proofs.YtdpklbomhdpimaaDoor.P
open Go.RowKit Go.Shelf Go.Proofs.YtdpklbomhdpimaaDoorW.PrintWords Go.Proofs.YtdpklbomhdpimaaDoorW.PrintLast Go.Proofs.YtdpklbomhdpimaaDoorW.PrintMore Go.Proofs.YtdpklbomhdpimaaDoor.FP
attribute [local go_sem] Oper.semAt_some

def NList (A:Nat→Option Nat) (n0:Nat) (W:World):Option Addr→List Nat→Prop
 | p,[]=>p=none
 | p,x::rest=>∃ b q,A x=some b∧p=some ⟨b,0,none⟩∧b < n0∧W.cell? ⟨b,4,none⟩=some (.pointer q)∧NList A n0 W q rest
theorem NList.below {A:Nat→Option Nat} {n0:Nat} {V W:World} (h:Below n0 V W):∀ {p:Option Addr} {xs:List Nat},NList A n0 V p xs→NList A n0 W p xs
 | _,[],hl=>hl
 | _,_::_,⟨b,q,h1,h2,h3,h4,h5⟩=>⟨b,q,h1,h2,h3,(h.cell (p:=⟨b,4,none⟩) h3).trans h4,NList.below h h5⟩
theorem NList.len {A:Nat→Option Nat} {n0:Nat} {W:World}:∀ {xs ys:List Nat} {p:Option Addr},NList A n0 W p xs→NList A n0 W p ys→xs.length=ys.length
 | [],[],_,_,_=>rfl
 | [],_::_,_,h,⟨b,q,_,h2,_⟩=>by rw [show _=none from h] at h2;cases h2
 | _::_,[],_,⟨b,q,_,h2,_⟩,h=>by rw [show _=none from h] at h2;cases h2
 | _::_,_::_,_,⟨b,q,h1,h2,h3,h4,h5⟩,⟨c,r,g1,g2,g3,g4,g5⟩=>by
  rw [h2] at g2
  obtain rfl:b=c:=congrArg Addr.block (sj_ g2)
  rw [h4] at g4
  obtain rfl:q=r:=by injection g4 with e;injection e
  rw [List.length_cons,List.length_cons,NList.len h5 g5]
open Classical in
noncomputable def nleft (A:Nat→Option Nat) (n0:Nat) (W:World) (v:Value):Nat :=
 if h:∃ r:Option Addr×List Nat,v=.pointer r.1∧NList A n0 W r.1 r.2 then (Classical.choose h).2.length else 0
theorem nleft_eq {A:Nat→Option Nat} {n0:Nat} {W:World} {q:Option Addr} {xs:List Nat} (h:NList A n0 W q xs):nleft A n0 W (.pointer q)=xs.length:=by
 have hex:∃ r:Option Addr×List Nat,Value.pointer q=.pointer r.1∧NList A n0 W r.1 r.2:=⟨(q,xs),rfl,h⟩
 unfold nleft
 rw [dif_pos hex]
 obtain ⟨e,hl⟩:=Classical.choose_spec hex
 have e':q=(Classical.choose hex).1:=by simpa using e
 rw [←e'] at hl
 exact NList.len hl h
theorem nlist_of {w:World} {n0 F:Nat} {A:Nat→Option Nat} {h:Nat→Nd} (m:Mem w n0 F A h) {up:Nat}:∀ {G:Fo},Rep h up G→(∀ x∈G.ids,A x≠none)→NList A w.heap.size w (pa (A G.hd)) G.tops
 | .nil,_,_=>by show pa (A 0)=none;rw [m.z];rfl
 | .nd i t k n,⟨h1,h2,h3,h4⟩,hA=>by
  obtain ⟨b,hb⟩:=Option.ne_none_iff_exists'.1 (hA i (by simp [Fo.ids]))
  refine ⟨b,pa (A n.hd),hb,by show pa (A i)=_;rw [hb];rfl,m.lt hb,?_,nlist_of m h4 fun x hx=>hA x (by simp [Fo.ids,hx])⟩
  rw [m.c4 hb,h2]
theorem kids_in (F:Fence) (n:Nat) (hf:F.fn 156) (hro:F.round=none) (p0:Option Addr) (w:World) :
  CallsIn F n Tryd.prog 156 #[.pointer p0] w fun e w'=>e=.returned (.func (.func 157) #[] #[.pointer (some ⟨w.heap.size,0,none⟩)])∧w'=w.alloc (.cells #[.pointer p0] 162):=by
 refine callsIn_of_wp Tryd.func156 rfl hf ?_ hro
 simp only [Tryd.ntmps156,List.size_toArray,List.length_cons,List.length_nil,Nat.reduceAdd,Nat.reduceSub,Array.replicate_succ,Array.replicate_zero,List.push_toArray,List.append_toArray,List.nil_append,List.cons_append]
 gi_wp2
 go_ret
 exact ⟨rfl,rfl⟩
structure KA (Q:Nat→Prop) where
 val:Nat
 ok:Q val
theorem kids1_in (F:Fence) (n:Nat) (hf:F.fn 157) (hro:F.round=none) (hn:1≤n) (l Bn n0 b:Nat) (Q:Nat→Prop) (A:Nat→Option Nat) (p0:Option Addr) (xs:List (KA Q)) (J Jx:List (KA Q)→World→Prop)
  (hY:∀ pre x W,J pre W→pre.length < xs.length→YieldAt F (n - 1) Tryd.prog l #[.pointer (pa (A x.val))] W fun e W' =>
   (e=.returned (.bool true)∧J (pre++[x]) W'∧Below n0 W W')∨(e=.returned (.bool false)∧Jx (pre++[x]) W'))
  (W:World) (hBn:W.cell? ⟨Bn,0,none⟩=some (.pointer (some ⟨b,0,none⟩))) (hb3:W.cell? ⟨b,3,none⟩=some (.pointer p0)) (hL:NList A n0 W p0 (xs.map KA.val)) (h0:J [] W) :
  CallsIn F n Tryd.prog 157 #[.func (.yield l) #[] #[],.pointer (some ⟨Bn,0,none⟩)] W fun e W'=>(∃ v,e=.returned v) ∧
   ((∃ ys,ys=xs∧J ys W')∨(∃ pre,pre <+: xs∧Jx pre W')):=by
 refine callsIn_of_wp Tryd.func157 rfl hf ?_ hro
 simp only [Tryd.ntmps157,List.size_toArray,List.length_cons,List.length_nil,Nat.reduceAdd,Nat.reduceSub,Array.replicate_succ,Array.replicate_zero,List.push_toArray,List.append_toArray,List.nil_append,List.cons_append]
 gi_wp2
 gi_loopw [3] (fun p wr=>∃ (pre rest:List (KA Q)) (q:Option Addr),p=.pointer q∧xs=pre++rest∧NList A n0 wr q (rest.map KA.val)∧J pre wr)
  (fun p wr=>nleft A n0 wr p)
 case atStart =>
  exact ⟨[],xs,p0,rfl,rfl,hL,h0⟩
 case round =>
  obtain ⟨pre,rest,q,rfl,hx,hl,hJs⟩:=hrel
  cases rest with
  | nil =>
   obtain rfl:q=none:=hl
   gi_wp2
   go_end0
   exact ⟨⟨_,rfl⟩,.inl ⟨pre,by simp [hx],hJs⟩⟩
  | cons x rest =>
   have hl':=hl
   obtain ⟨c,q',hA,rfl,hc,hq,hr⟩:=hl
   obtain ⟨fn,tmps,assign,body,hy,hR⟩:=hY pre x wr hJs (by rw [hx];simp)
   rw [hA,pa_some] at hy
   have HA:=a_ hA
   clear hA
   gi_wp2
   refine hR.mono ?_
   rintro e W3 (⟨rfl,hJ3,hk3⟩|⟨rfl,hJx3⟩)
   ·have hq3:W3.cell? ⟨c,4,none⟩=some (.pointer q'):=(hk3.cell (p:=⟨c,4,none⟩) hc).trans hq
    gi_wp2
    go_roundw
    case rel=>exact ⟨pre++[x],rest,q',rfl,by simp [hx],hr.below hk3,hJ3⟩
    case measure=>rw [nleft_eq (hr.below hk3),nleft_eq hl'];simp
   ·gi_wp2
    refine bodyPost_ret (results_none rfl _ _ _) rfl ?_
    exact ⟨⟨_,rfl⟩,.inr ⟨pre++[x],⟨rest,by simp [hx]⟩,hJx3⟩⟩
theorem kids_stops (F:Fence) (n:Nat) (hf:F.fn 157) (hro:F.round=none) (hn:1≤n) (Bn n0 b:Nat) (Q:Nat→Prop) (A:Nat→Option Nat) (p0:Option Addr) (xs:List (KA Q)) (w:World) (hBn:Bn < w.heap.size) (hn0:n0≤w.heap.size) (hb:b < w.heap.size)
  (hc:w.cell? ⟨Bn,0,none⟩=some (.pointer (some ⟨b,0,none⟩))) (hb3:w.cell? ⟨b,3,none⟩=some (.pointer p0)) (hL:NList A n0 w p0 (xs.map KA.val)) :
  SeqStopsK F n Tryd.prog 157 #[.pointer (some ⟨Bn,0,none⟩)] (fun x:KA Q=>#[.pointer (pa (A x.val))]) (Below n0) (fun ys=>ys=xs) (fun pre=>pre <+: xs) xs.length w:=fun l J Jx W hW _ _ hY h0 =>
 kids1_in F n hf hro hn l Bn n0 b Q A p0 xs J Jx hY W ((hW.cell (p:=⟨Bn,0,none⟩) hBn).trans hc) ((hW.cell (p:=⟨b,3,none⟩) hb).trans hb3) (hL.below (hW.mono hn0)) h0
theorem attach_val {Q:Nat→Prop}:∀ {l:List Nat} (h:∀ x∈l,Q x),∃ xs:List (KA Q),xs.map KA.val=l
 | [],_=>⟨[],rfl⟩
 | x::l,h=>by
  obtain ⟨xs,hx⟩:=attach_val (l:=l) fun y hy=>h y (List.mem_cons_of_mem _ hy)
  exact ⟨⟨x,h x List.mem_cons_self⟩::xs,by rw [List.map_cons,hx]⟩
def pv (i:Nat):Nat→List Nat→Nat
 | p,[]=>p
 | p,y::r=>if y=i then p else pv i y r
theorem cell_of_box_f {W:World} {B:Nat} {v:Value} {t:TypeId} (h:W.heap[B]?=some (.cells #[v] t (0,0))):W.cell? ⟨B,0,none⟩=some v∧W.frozen? ⟨B,0,none⟩=false:=by
 constructor <;> simp [World.cell?,World.frozen?,h]
theorem cell_new_f (W:World) (v:Value) (t:TypeId):(W.alloc (.cells #[v] t)).cell? ⟨W.heap.size,0,none⟩=some v∧(W.alloc (.cells #[v] t)).frozen? ⟨W.heap.size,0,none⟩=false :=
 cell_of_box_f (World.alloc_heap_new W _)
end Go.Proofs.YtdpklbomhdpimaaDoor.P
namespace Go.Proofs.YtdpklbomhdpimaaDoor.FP
open Go.Proofs.YtdpklbomhdpimaaDoor.P
def under (u x:Nat) (F:Fo):Prop:=u∈F.ids∧(x=u∨x∈(sub u F).ids)
instance (u x:Nat) (F:Fo):Decidable (under u x F):=by unfold under;exact inferInstance
def setF (x:Nat) (t:ByteArray):Fo→Fo
 | .nil=>.nil
 | .nd j u k n=>.nd j (if j=x then t else u) (setF x t k) (setF x t n)
def dep (x:Nat) (d:Nat):Fo→Nat
 | .nil=>d
 | .nd j _ k n=>if j=x then d else if x∈k.ids then dep x (d+1) k else dep x d n
end Go.Proofs.YtdpklbomhdpimaaDoor.FP
namespace Go.Proofs.YtdpklbomhdpimaaDoor.P
open Go.RowKit Go.Proofs.YtdpklbomhdpimaaDoorW.PrintWords Go.Proofs.YtdpklbomhdpimaaDoorW.PrintLast Go.Proofs.YtdpklbomhdpimaaDoorW.PrintMore Go.Proofs.YtdpklbomhdpimaaDoor.PL Go.Proofs.YtdpklbomhdpimaaDoor.FP
theorem Mem.far {w:World} {n0 F:Nat} {A:Nat→Option Nat} {h:Nat→Nd} (m:Mem w n0 F A h) {p:Addr} (hF:F≠p.block) (hA:∀ i,A i≠some p.block) (v:Value):Mem (w.setCell p v) n0 F A h :=
 { m with tab:=blk_far m.tab hF v,nod:=fun i b e=>blk_far (m.nod i b e) (fun e2=>hA i (e2 ▸ e)) v }
theorem as_hit {P:Program} {t xT:TypeId} {fs:Array Field} (hu:P.underlying t=some (.struct fs)) (v:Value) (w:World):(Instr.typeAssert (.iface t v) xT t true).run P w=.ok (.tuple #[v,.bool true]) w:=by
 simp [Instr.typeAssert,run_underlying hu]
theorem as_miss {P:Program} {t t' xT:TypeId} {fs:Array Field} {z:Value} (hu:P.underlying t'=some (.struct fs)) (hz:(P.info? t').map (·.zero)=some (some z)) (hne:t≠t') (v:Value) (w:World):(Instr.typeAssert (.iface t v) xT t' true).run P w=.ok (.tuple #[z,.bool false]) w:=by
 obtain ⟨j,hj,hz'⟩:=Option.map_eq_some_iff.1 hz
 simp [Instr.typeAssert,run_underlying hu,typeInfo,zeroValue,hj,hz',hne]
@[go_sem]
theorem as_mm (v:Value) (w:World):(Instr.typeAssert (.iface 156 v) 118 156 true).run Tryd.prog w=.ok (.tuple #[v,.bool true]) w:=as_hit Tryd.underlying156 v w
@[go_sem]
theorem as_tt (v:Value) (w:World):(Instr.typeAssert (.iface 159 v) 118 159 true).run Tryd.prog w=.ok (.tuple #[v,.bool true]) w:=as_hit Tryd.underlying159 v w
@[go_sem]
theorem as_vv (v:Value) (w:World):(Instr.typeAssert (.iface 161 v) 118 161 true).run Tryd.prog w=.ok (.tuple #[v,.bool true]) w:=as_hit Tryd.underlying161 v w
def zM:Value:=.agg #[.int .i64 0,.int .i64 0,.int .i64 0,.string ByteArray.empty]
def zT:Value:=.agg #[.int .i64 0,.string ByteArray.empty]
def zV:Value:=.agg #[.int .i64 0,.int .i64 0,.int .i64 0]
@[go_sem]
theorem as_tm (v:Value) (w:World):(Instr.typeAssert (.iface 159 v) 118 156 true).run Tryd.prog w=.ok (.tuple #[zM,.bool false]) w:=as_miss Tryd.underlying156 (by kernel_rfl) (by decide) v w
@[go_sem]
theorem as_vm (v:Value) (w:World):(Instr.typeAssert (.iface 161 v) 118 156 true).run Tryd.prog w=.ok (.tuple #[zM,.bool false]) w:=as_miss Tryd.underlying156 (by kernel_rfl) (by decide) v w
@[go_sem]
theorem as_mt (v:Value) (w:World):(Instr.typeAssert (.iface 156 v) 118 159 true).run Tryd.prog w=.ok (.tuple #[zT,.bool false]) w:=as_miss Tryd.underlying159 (by kernel_rfl) (by decide) v w
@[go_sem]
theorem as_vt (v:Value) (w:World):(Instr.typeAssert (.iface 161 v) 118 159 true).run Tryd.prog w=.ok (.tuple #[zT,.bool false]) w:=as_miss Tryd.underlying159 (by kernel_rfl) (by decide) v w
@[go_sem]
theorem as_mv (v:Value) (w:World):(Instr.typeAssert (.iface 156 v) 118 161 true).run Tryd.prog w=.ok (.tuple #[zV,.bool false]) w:=as_miss Tryd.underlying161 (by kernel_rfl) (by decide) v w
@[go_sem]
theorem as_tv (v:Value) (w:World):(Instr.typeAssert (.iface 159 v) 118 161 true).run Tryd.prog w=.ok (.tuple #[zV,.bool false]) w:=as_miss Tryd.underlying161 (by kernel_rfl) (by decide) v w
end Go.Proofs.YtdpklbomhdpimaaDoor.P
namespace Go.Proofs.YtdpklbomhdpimaaDoor.P
open Go.RowKit Go.Shelf Go.Proofs.YtdpklbomhdpimaaDoorW.PrintWords Go.Proofs.YtdpklbomhdpimaaDoorW.PrintLast Go.Proofs.YtdpklbomhdpimaaDoorW.PrintMore Go.Proofs.YtdpklbomhdpimaaDoor.FP
attribute [local go_sem] Oper.semAt_some

theorem roomN {F:Fence} (hd:F.depth=none) (k:Nat):F.room k:=fun d h=>by rw [hd] at h;cases h
theorem callsIn_any {F:Fence} (hd:F.depth=none) {m m':Nat} {P:Program} {f:FuncId} {args:Array Value} {w:World} {R:Ending→World→Prop} (h:CallsIn F m P f args w R):CallsIn F m' P f args w R :=
 ⟨h.1,fun cs _=>h.2 cs (roomN hd _)⟩
theorem KeepsFrom.mono {B B':Nat} {W W':World} (h:KeepsFrom B W W') (hB:B≤B'):KeepsFrom B' W W':=⟨h.size,fun k o hk=>h.same k o (Nat.le_trans hB hk)⟩
def Stb {β:Type} (B0:Nat) (J:β→World→Prop):Prop :=
 ∀ s V W row,J s V→V.grownBy W row→(∀ r,row=some r→B0≤r∧∃ o:Obj,V.heap[r]?=some o∧(o.isCells=false∨∃ v,o=.cells #[v] 4 (0,0)))→J s W
theorem Stb.own {β:Type} {B0 B:Nat} {J:β→World→Prop} (h:Stb B0 J) (hB:B0≤B):OwnFrom B J:=fun s V W row hs hg hr=>h s V W row hs hg fun r e=>by
 obtain ⟨h1,o,h2,h3⟩:=hr r e
 exact ⟨Nat.le_trans hB h1,o,h2,Or.inl h3⟩
theorem Stb.alloc {β:Type} {B0:Nat} {J:β→World→Prop} (h:Stb B0 J) {s:β} {V:World} (o:Obj) (hs:J s V):J s (V.alloc o):=h s V _ none hs (World.grownBy_alloc V o none) (fun r e=>by cases e)
theorem Stb.put {β:Type} {B0:Nat} {J:β→World→Prop} (h:Stb B0 J) {s:β} {V:World} {l:Nat} {o:Obj} (o':Obj) (hs:J s V) (hl:V.heap[l]?=some o) (ho:o.isCells=false) (hB:B0≤l):J s (V.putObj l o') :=
 h s V _ (some l) hs (grownBy_putObj' V l o') (fun r e=>by cases e;exact ⟨hB,o,hl,Or.inl ho⟩)
theorem Stb.box {β:Type} {B0:Nat} {J:β→World→Prop} (h:Stb B0 J) {s:β} {V:World} {l:Nat} {v:Value} (v':Value) (hs:J s V) (hl:Boxed V l 4 v) (hB:B0≤l):J s (V.setCell ⟨l,0,none⟩ v') :=
 h s V _ (some l) hs (grownBy_setCell' V l v') (fun r e=>by cases e;exact ⟨hB,_,hl,Or.inr ⟨v,rfl⟩⟩)
structure YE (A:Nat→Option Nat) where
 val:Nat
 dep:Int
 ok:A val≠none
 d0:0≤dep∧dep≤1000
def YE.pr {A:Nat→Option Nat} (e:YE A):Nat×Int:=(e.val,e.dep)
theorem YE.inj {A:Nat→Option Nat}:∀ {e e':YE A},e.pr=e'.pr→e=e'
 | ⟨v,d,_,_⟩,⟨v',d',_,_⟩,h=>by
  have h1:v=v':=congrArg Prod.fst h
  have h2:d=d':=congrArg Prod.snd h
  subst h1;subst h2;rfl
theorem YE.inj_map {A:Nat→Option Nat}:∀ {l l':List (YE A)},l.map YE.pr=l'.map YE.pr→l=l'
 | [],[],_=>rfl
 | [],_::_,h=>by cases h
 | _::_,[],h=>by cases h
 | e::l,e'::l',h=>by
  rw [List.map_cons,List.map_cons] at h
  rw [YE.inj (List.cons.inj h).1,YE.inj_map (List.cons.inj h).2]
def mkYE (A:Nat→Option Nat):(l:List (Nat×Int))→(∀ p∈l,A p.1≠none∧0≤p.2∧p.2≤1000)→List (YE A)
 | [],_=>[]
 | p::l,h=>⟨p.1,p.2,(h p List.mem_cons_self).1,(h p List.mem_cons_self).2⟩::mkYE A l fun q hq=>h q (List.mem_cons_of_mem _ hq)
theorem mkYE_pr (A:Nat→Option Nat):∀ (l:List (Nat×Int)) (h:∀ p∈l,A p.1≠none∧0≤p.2∧p.2≤1000),(mkYE A l h).map YE.pr=l
 | [],_=>rfl
 | p::l,h=>by
  unfold mkYE
  rw [List.map_cons,mkYE_pr A l]
  rfl
def pre1 (d:Int):Fo→List (Nat×Int)
 | .nil=>[]
 | .nd i _ k n=>(i,d)::(pre1 (d+1) k++pre1 d n)
theorem pre1_len:∀ (F:Fo) (d:Int),(pre1 d F).length=F.ids.length
 | .nil,d=>rfl
 | .nd i t k n,d=>by simp [pre1,Fo.ids,pre1_len k,pre1_len n]
theorem pre1_mem:∀ {F:Fo} {d:Int} {p:Nat×Int},p∈pre1 d F→p.1∈F.ids∧d≤p.2∧p.2 < d+F.ids.length
 | .nil,d,p,h=>by cases h
 | .nd i t k n,d,p,h=>by
  simp only [pre1,List.mem_cons,List.mem_append] at h
  simp only [Fo.ids,List.mem_cons,List.mem_append,List.length_cons,List.length_append]
  rcases h with rfl|h|h
  ·exact ⟨Or.inl rfl,by simp,by simp;omega⟩
  ·obtain ⟨h1,h2,h3⟩:=pre1_mem h
   exact ⟨Or.inr (Or.inl h1),by omega,by omega⟩
  ·obtain ⟨h1,h2,h3⟩:=pre1_mem h
   exact ⟨Or.inr (Or.inr h1),by omega,by omega⟩
def kf (x:Nat):Fo→Fo
 | .nil=>.nil
 | .nd j _ k n=>if j=x then k else kf x n
theorem kf_spec {h:Nat→Nd} {x:Nat}:∀ {F:Fo} {up:Nat},Rep h up F→F.ids.Nodup→x∈F.tops→Rep h x (kf x F)∧(h x).first=(kf x F).hd∧(∀ y∈(kf x F).ids,y∈F.ids)∧(kf x F).ids.length < F.ids.length∧(kf x F).ids.Nodup
 | .nil,_,_,_,hx=>by cases hx
 | .nd j t k n,up,⟨h1,h2,h3,h4⟩,hn,hx=>by
  obtain ⟨n1,n2,n3,n4,n5⟩:=nodup_nd hn
  unfold kf
  by_cases e:j=x
  ·subst e
   rw [if_pos rfl]
   exact ⟨h3,by rw [h2],fun y hy=>by simp [Fo.ids,hy],by simp [Fo.ids];omega,n3⟩
  ·rw [if_neg e]
   have hx':x∈n.tops:=by
    simp only [Fo.tops,List.mem_cons] at hx
    exact hx.resolve_left fun e'=>e e'.symm
   obtain ⟨g1,g2,g3,g4,g5⟩:=kf_spec h4 n4 hx'
   exact ⟨g1,g2,fun y hy=>by simp [Fo.ids,g3 y hy],by simp [Fo.ids];omega,g5⟩
theorem flatMap_congr' {α β:Type} {f g:α→List β}:∀ {l:List α},(∀ x∈l,f x=g x)→l.flatMap f=l.flatMap g
 | [],_=>rfl
 | x::l,h=>by rw [List.flatMap_cons,List.flatMap_cons,h x List.mem_cons_self,flatMap_congr' fun y hy=>h y (List.mem_cons_of_mem _ hy)]
theorem pre1_kids:∀ (F:Fo) (d:Int),F.ids.Nodup→pre1 d F=F.tops.flatMap fun x=>(x,d)::pre1 (d+1) (kf x F)
 | .nil,d,_=>rfl
 | .nd j t k n,d,hn=>by
  obtain ⟨n1,n2,n3,n4,n5⟩:=nodup_nd hn
  simp only [Fo.tops,List.flatMap_cons,pre1]
  rw [pre1_kids n d n4]
  have e1:kf j (Fo.nd j t k n)=k:=by unfold kf;exact if_pos rfl
  rw [e1,List.cons_append]
  congr 2
  refine flatMap_congr' fun x hx=>?_
  have e2:kf x (Fo.nd j t k n)=kf x n:=by
   have:j≠x:=fun e=>n2 (tops_ids (e ▸ hx))
   show (if j=x then k else kf x n)=kf x n
   exact if_neg this
  rw [e2]
theorem map_flatMap' {α β γ:Type} (f:α→List β) (g:β→γ):∀ (l:List α),(l.flatMap f).map g=l.flatMap fun x=>(f x).map g
 | []=>rfl
 | x::l=>by rw [List.flatMap_cons,List.flatMap_cons,List.map_append,map_flatMap' f g l]
theorem flatMap_map' {α β γ:Type} (f:β→List γ) (g:α→β):∀ (l:List α),(l.map g).flatMap f=l.flatMap fun x=>f (g x)
 | []=>rfl
 | x::l=>by rw [List.map_cons,List.flatMap_cons,List.flatMap_cons,flatMap_map' f g l]
theorem flatMap_len {α β:Type} (f:α→List β) (c:Nat):∀ (l:List α),(∀ x∈l,(f x).length≤c)→(l.flatMap f).length≤c * l.length
 | [],_=>by simp
 | x::l,h=>by
  rw [List.flatMap_cons,List.length_append,List.length_cons,Nat.mul_add]
  have h1:=h x List.mem_cons_self
  have h2:=flatMap_len f c l fun y hy=>h y (List.mem_cons_of_mem _ hy)
  omega
theorem tops_len:∀ (F:Fo),F.tops.length≤F.ids.length
 | .nil=>Nat.le_refl _
 | .nd i t k n=>by
  have:=tops_len n
  simp only [Fo.tops,Fo.ids,List.length_cons,List.length_append]
  omega
attribute [local go_sem] Oper.semAt_some

def KB (V W:World):Prop:=∀ (b:Nat) (t:TypeId) (v:Value),(t=3∨t=194∨t=4∨t=162∨t=121)→Boxed V b t v→Boxed W b t v
theorem KB.refl (W:World):KB W W:=fun _ _ _ _ h=>h
theorem KB.trans {U V W:World} (h:KB U V) (k:KB V W):KB U W:=fun b t v ht hb=>k b t v ht (h b t v ht hb)
theorem KB.grown {V W:World} {row:Option Nat} (hg:V.grownBy W row) (hr:∀ r,row=some r→∃ o:Obj,V.heap[r]?=some o∧o.isCells=false):KB V W:=fun b t v _ hb=>hb.kept hg fun e=>by
 obtain ⟨o,h1,h2⟩:=hr b e.symm
 have h3:V.heap[b]?=some (.cells #[v] t (0,0)):=hb
 rw [h3] at h1
 rw [←sj_ h1] at h2
 cases h2
theorem KB.alloc {U V:World} (h:KB U V) (o:Obj):KB U (V.alloc o):=h.trans (KB.grown (World.grownBy_alloc V o none) (fun r e=>by cases e))
structure Stp (w0:World) (B0:Nat) (V W:World):Prop where
 below:Below w0.heap.size V W
 from_:KeepsFrom B0 V W
 kb:KB V W
theorem Stp.refl (w0:World) (B0:Nat) (W:World):Stp w0 B0 W W:=⟨Below.refl _ _,KeepsFrom.refl _ _,KB.refl _⟩
theorem Stp.trans {w0:World} {B0:Nat} {U V W:World} (h:Stp w0 B0 U V) (k:Stp w0 B0 V W):Stp w0 B0 U W:=⟨h.below.trans k.below,h.from_.trans k.from_,h.kb.trans k.kb⟩
theorem Stp.alloc {w0:World} {B0:Nat} {U V:World} (h:Stp w0 B0 U V) (hB:w0.heap.size≤V.heap.size) (o:Obj):Stp w0 B0 U (V.alloc o):=⟨h.below.alloc hB _,h.from_.trans ((KeepsOthers.alloc _ _).from _),h.kb.alloc o⟩
theorem ownFrom_stp {β:Type} {B B0:Nat} {w0 U:World} (h1:w0.heap.size≤U.heap.size) (h2:U.heap.size≤B):OwnFrom B (fun (_:β) W=>Stp w0 B0 U W):=fun s V W row hs hg hr =>
 ⟨ownFrom_below (n₀:=w0.heap.size) (β:=Unit) h1 (Nat.le_trans h1 h2) () V W row hs.below hg hr,ownFrom_keepsFrom (β:=Unit) (B:=B0) h2 () V W row hs.from_ hg hr,hs.kb.trans (KB.grown hg fun r e=>(hr r e).2)⟩
def WalkI {A:Nat→Option Nat} {Q:Nat→Prop} (J:List (YE A)→World→Prop) (pre:List (YE A)) (ys:KA Q→List (YE A)) (w0 W0:World) (B0 g l:Nat) (d:Int) (ks:List (KA Q)) (W:World):Prop :=
 J (pre++ks.flatMap ys) W∧(Boxed W g 3 (.int .i64 d)∧Boxed W (g+1) 194 (.func (.yield l) #[] #[])∧Boxed W (g+1+1) 4 (.bool false))∧Stp w0 B0 W0 W
theorem walkI_own {A:Nat→Option Nat} {Q:Nat→Prop} {J:List (YE A)→World→Prop} {pre:List (YE A)} {ys:KA Q→List (YE A)} {w0 W0:World} {B0 g l B:Nat} {d:Int} (hJ:Stb B0 J) (hB:B0≤B) (h1:w0.heap.size≤W0.heap.size) (h2:W0.heap.size≤B) :
    OwnFrom B (WalkI (Q:=Q) J pre ys w0 W0 B0 g l d):=fun s V W row hs hg hr =>
  ⟨hJ.own hB (pre++s.flatMap ys) V W row hs.1 hg hr,
   ⟨boxed_own g _ (fun (_:Unit)=>_) () V W row hs.2.1.1 hg (fun r e=>(hr r e).2),boxed_own (g+1) _ (fun (_:Unit)=>_) () V W row hs.2.1.2.1 hg (fun r e=>(hr r e).2),boxed_own (g+1+1) _ (fun (_:Unit)=>_) () V W row hs.2.1.2.2 hg (fun r e=>(hr r e).2)⟩,
   ownFrom_stp (β:=Unit) h1 h2 () V W row hs.2.2 hg hr⟩
theorem KB.far {U V:World} (h:KB U V) {g:Nat} (hg:U.heap.size≤g) (v:Value):KB U (V.setCell ⟨g,0,none⟩ v):=fun b t u ht hb=>(h b t u ht hb).other (fun e=>by have:=hb.lt;omega) v
theorem KeepsFrom.far {B:Nat} {U V:World} (h:KeepsFrom B U V) {D:Nat} (hD:U.heap.size≤D) {o:Obj} (hK:V.heap[D]?=some o) (ho:o.isCells=false) (o':Obj):KeepsFrom B U (V.putObj D o') :=
 ownFrom_keepsFrom (β:=Unit) (B':=U.heap.size) (Nat.le_refl _) () V _ (some D) h (grownBy_putObj' V D o') (fun r e=>by cases e;exact ⟨hD,o,hK,ho⟩)
def WalkPost {A:Nat→Option Nat} (J:List (YE A)→World→Prop) (w0:World) (B0:Nat) (l:List (YE A)) (W:World) (e:Ending) (W':World):Prop:=e=.returned (.bool true)∧J l W'∧Stp w0 B0 W W'
theorem wlk_in_ (F:Fence) (hd:F.depth=none) (h81:F.fn 153) (h56:F.fn 156) (h76:F.fn 157) (hro:F.round=none) (l N B0:Nat) {w0:World} {n0 Fb:Nat} {A:Nat→Option Nat} {h:Nat→Nd} (m:Mem w0 n0 Fb A h)
  (J:List (YE A)→World→Prop) (hJ:Stb B0 J)
  (hY:∀ (q:Nat) (pre:List (YE A)) (x:YE A) (W:World),J pre W→Below w0.heap.size w0 W→pre.length < N→YieldAt F q Tryd.prog l #[.pointer (pa (A x.val)),.int .i64 x.dep] W (WalkPost J w0 B0 (pre++[x]) W)) :
  ∀ (s:Nat) (k:Fo),k.ids.length < s→∀ (q i:Nat) (d:Int) (es pre:List (YE A)) (W:World),Rep h i k→k.ids.Nodup→(∀ x∈k.ids,A x≠none)→A i≠none→(h i).first=k.hd→es.map YE.pr=(i,d)::pre1 (d+1) k→J pre W→Below w0.heap.size w0 W→B0≤W.heap.size →
   pre.length+1400 * (k.ids.length+1)≤N→k.ids.length≤36→0≤d→d+k.ids.length≤900 →
   CallsIn F q Tryd.prog 153 #[.pointer (pa (A i)),.int .i64 d,.func (.yield l) #[] #[]] W (WalkPost J w0 B0 (pre++es) W):=by
 intro s
 induction s with
 | zero=>intro k hk;omega
 | succ s ih =>
  intro k hks q i d es pre W hR hnd hAk hAi hfirst hes hJ0 hB hB0 hN h36 hd0 hd1
  obtain ⟨b,hb⟩:=Option.ne_none_iff_exists'.1 hAi
  -- what is handed on
  obtain ⟨e0,rest,rfl⟩:∃ e0 rest,es=e0::rest:=by
   cases es with
   | nil=>cases hes
   | cons e0 rest=>exact ⟨e0,rest,rfl⟩
  rw [List.map_cons] at hes
  obtain ⟨he0,hrest⟩:=List.cons.inj hes
  have hv:e0.val=i:=congrArg Prod.fst he0
  have hdp:e0.dep=d:=congrArg Prod.snd he0
  obtain ⟨ks,hks2⟩:=attach_val (Q:=fun y=>y∈k.tops) (l:=k.tops) fun x hx=>hx
  have hok:∀ x:KA (fun y=>y∈k.tops),∀ p∈(x.val,d+1)::pre1 (d+1+1) (kf x.val k),A p.1≠none∧0≤p.2∧p.2≤1000:=fun x p hp=>by
   obtain ⟨g1,g2,g3,g4,g5⟩:=kf_spec hR hnd x.ok
   rcases List.mem_cons.1 hp with rfl|hp
   ·exact ⟨hAk _ (tops_ids x.ok),by simp;omega,by simp;omega⟩
   ·obtain ⟨a1,a2,a3⟩:=pre1_mem hp
    exact ⟨hAk _ (g3 _ a1),by omega,by omega⟩
  obtain ⟨ys,hys⟩:∃ ys:KA (fun y=>y∈k.tops)→List (YE A),∀ x,(ys x).map YE.pr=(x.val,d+1)::pre1 (d+1+1) (kf x.val k):=⟨fun x=>mkYE A _ (hok x),fun x=>mkYE_pr A _ (hok x)⟩
  have hrest2:rest=ks.flatMap ys:=by
   apply YE.inj_map
   rw [hrest,map_flatMap',pre1_kids k (d+1) hnd]
   refine ((congrArg (fun (z:List Nat)=>z.flatMap fun x=>(x,d+1)::pre1 (d+1+1) (kf x k)) hks2).symm.trans (flatMap_map' _ KA.val ks)).trans ?_
   exact flatMap_congr' fun x _=>(hys x).symm
  have hyl:∀ x,(ys x).length≤36:=fun x=>by
   have h1:=congrArg List.length (hys x)
   have g4:=(kf_spec hR hnd x.ok).2.2.2.1
   rw [List.length_map,List.length_cons,pre1_len] at h1
   omega
  have hkl:ks.length≤36:=by
   have h1:=congrArg List.length hks2
   rw [List.length_map] at h1
   have:=tops_len k
   omega
  subst hrest2
  clear hes hrest hok he0
  have hsz:=hB.size
  -- the boxes
  obtain ⟨W3,hW3⟩:∃ W3,W3=((W.alloc (.cells #[.int .i64 d] 3)).alloc (.cells #[.func (.yield l) #[] #[]] 194)).alloc (.cells #[.bool false] 4):=⟨_,rfl⟩
  have b1:=((Boxed.new W 3 (.int .i64 d)).alloc (.cells #[.func (.yield l) #[] #[]] 194)).alloc (.cells #[.bool false] 4)
  have b2:=(Boxed.new (W.alloc (.cells #[.int .i64 d] 3)) 194 (.func (.yield l) #[] #[])).alloc (.cells #[.bool false] 4)
  have b3:=Boxed.new ((W.alloc (.cells #[.int .i64 d] 3)).alloc (.cells #[.func (.yield l) #[] #[]] 194)) 4 (.bool false)
  simp only [World.size_alloc] at b2 b3
  have hJ3:J pre W3:=by rw [hW3];exact hJ.alloc _ (hJ.alloc _ (hJ.alloc _ hJ0))
  have hS3:Stp w0 B0 W W3:=by rw [hW3];exact (((Stp.refl w0 B0 W).alloc hsz _).alloc (by simp;omega) _).alloc (by simp;omega) _
  have hz3:W3.heap.size=W.heap.size+3:=by rw [hW3];simp
  rw [←hW3] at b1 b2 b3
  obtain ⟨fn,tmps,assign,body,hy,hRd⟩:=hY 7 pre e0 W3 hJ3 (hB.trans hS3.below) (by omega)
  rw [hv,hdp,hb,pa_some] at hy
  have cD:=b1.cell
  have cY:=b2.cell
  have M:=a_ m
  have HB:=a_ hB
  have HBi:=a_ hb
  have HS3:=a_ hS3
  refine callsIn_any hd (m:=8) ?_
  rw [hb,pa_some]
  refine callsIn_of_wp_marks Tryd.func153 rfl h81 ?_ hro
  simp only [Tryd.ntmps153,List.size_toArray,List.length_cons,List.length_nil,Nat.reduceAdd,Nat.reduceSub,Array.replicate_succ,Array.replicate_zero,List.push_toArray,List.append_toArray,List.nil_append,List.cons_append]
  rw [hW3] at hy cD cY
  gi_wp2
  rw [←hW3]
  refine hRd.mono ?_
  clear hRd hy cD cY hJ3 hS3
  rintro e W4 ⟨rfl,hJ4,hS4⟩
  have HJ4:=a_ hJ4
  have HS4:=a_ (HS3.out.trans hS4)
  have HK4:=a_ hS4.kb
  have HZ4:=a_ hS4.below.size
  clear hJ4 hS4
  gi_wp2_with (gi_at_call 156;refine (kids_in F _ h56 hro _ _).mono ?_;rintro e w' ⟨rfl,rfl⟩)
  have hS4:=HS4.out
  have hz4:W3.heap.size≤W4.heap.size:=HZ4.out
  obtain ⟨W5,hW5⟩:∃ W5,W5=W4.alloc (.cells #[.pointer (some ⟨b,0,none⟩)] 162):=⟨_,rfl⟩
  have hz5:W5.heap.size=W4.heap.size+1:=by rw [hW5];simp
  have hB05:B0≤W5.heap.size:=by omega
  have hbox:W5.cell? ⟨W4.heap.size,0,none⟩=some (.pointer (some ⟨b,0,none⟩)):=by rw [hW5];exact (cell_new_f W4 _ _).1
  have hS45:Stp w0 B0 W4 W5:=by rw [hW5];exact (Stp.refl w0 B0 W4).alloc (by omega) _
  have hB5:Below w0.heap.size w0 W5:=(HB.out.trans hS4.below).trans hS45.below
  have M5:=M.out.below hB5
  have c3:=M5.c3 HBi.out
  rw [hfirst] at c3
  have hL:NList A w0.heap.size W5 (pa (A k.hd)) (ks.map KA.val):=by rw [hks2];exact (nlist_of M.out hR hAk).below hB5
  have hbl:b < w0.heap.size:=M.out.lt HBi.out
  have hI0:WalkI J (pre++[e0]) ys w0 W5 B0 W.heap.size l d [] W5:=⟨by rw [List.flatMap_nil,List.append_nil,hW5];exact hJ.alloc _ HJ4.out,⟨hS45.kb _ _ _ (Or.inl rfl) (HK4.out _ _ _ (Or.inl rfl) b1),hS45.kb _ _ _ (Or.inr (Or.inl rfl)) (HK4.out _ _ _ (Or.inr (Or.inl rfl)) b2),hS45.kb _ _ _ (Or.inr (Or.inr (Or.inl rfl))) (HK4.out _ _ _ (Or.inr (Or.inr (Or.inl rfl))) b3)⟩,Stp.refl _ _ _⟩
  rw [←hW5]
  have HB5:=a_ hB5
  have HS45:=a_ hS45
  clear b1 b2 b3 hB5 hS45
  refine wpIn_rangeFunc_ownG hro (show 1≤8 by omega) (gf:=157) (lb:=#[.pointer (some ⟨W4.heap.size,0,none⟩)]) rfl h76 (enters_of Tryd.func157 (by kernel_rfl) rfl)
   (kids_stops F 7 h76 hro (by omega) W4.heap.size w0.heap.size b (fun y=>y∈k.tops) A (pa (A k.hd)) ks W5 (by omega) (by omega) (by omega) hbox c3 hL) belowK_t (belowK_b (by omega)) (Below.refl _ _) (fun _=>by rfl)
   (WalkI J (pre++[e0]) ys w0 W5 B0 W.heap.size l d) (fun _ _ _=>False) (walkI_own hJ (by omega) (by omega) (by omega)) (fun _ _ _ _ _ hs _ _=>hs) hI0
   (fun x=>{ tmps:=#[.pointer (some ⟨b,0,none⟩),.int .i64 d,.func (.yield l) #[] #[],undef,.pointer (some ⟨W.heap.size,0,none⟩),.pointer (some ⟨W.heap.size+1,0,none⟩),.pointer (some ⟨W.heap.size+1+1,0,none⟩),.pointer (pa (A x.val)),.func (.yield l) #[] #[],.pointer (some ⟨b,0,none⟩),.int .i64 d,.bool true,.bool false,.pointer (some ⟨b,0,none⟩),.func (.func 157) #[] #[.pointer (some ⟨W4.heap.size,0,none⟩)],.pointer (pa (A x.val)),undef,undef,undef,undef,undef,undef],defers:=[] }) ?assign ?body ?done ?stop
  case assign =>
   intro l2 x V K hK
   gi_wp2
   exact hK
  case body =>
   rintro l2 pre' x V hI hlt
   obtain ⟨hJv,⟨v1,v2,v3⟩,hSv⟩:=hI
   obtain ⟨g1,g2,g3,g4,g5⟩:=kf_spec hR hnd x.ok
   have hfl:=flatMap_len ys 36 pre' fun x _=>hyl x
   have IH:=a_ (ih (kf x.val k) (by omega) (8 - 1 - 1 - 1) x.val (d+1) (ys x) (pre++[e0]++pre'.flatMap ys) V g1 g5 (fun y hy=>hAk y (g3 y hy)) (hAk _ (tops_ids x.ok)) g2 (hys x) hJv (HB5.out.trans hSv.below) (by have:=hSv.below.size;omega)
    (by simp only [List.length_append,List.length_cons,List.length_nil];omega) (by omega) (by omega) (by omega))
   have p1:=v1.cell
   have p2:=v2.cell
   have HV:=a_ (And.intro v1 (And.intro v2 v3))
   have HSv:=a_ hSv
   clear hJv v1 v2 v3 hSv g1 g2 g3 g4 g5 hfl hlt hI0 hL c3 hbox M5 hz4 hz5 hkl hyl hys hks2 hv hdp hN h36
   have hd0':0≤d:=hd0
   have hd9:d≤900:=by omega
   gi_wp2_with (gi_at_call 153;refine (CallsIn.inRound l2 IH.out).mono ?_;clear IH;rintro e W6 ⟨rfl,hJ6,hS6⟩;have HJ6:=a_ hJ6;have HS6:=a_ hS6;clear hJ6 hS6)
   have h6:=HS6.out
   obtain ⟨v1,v2,v3⟩:=HV.out
   have hJ6:=HJ6.out
   refine ⟨KeepsFrom.mono h6.from_ hB05,h6.below,⟨?_,⟨h6.kb _ _ _ (Or.inl rfl) v1,h6.kb _ _ _ (Or.inr (Or.inl rfl)) v2,h6.kb _ _ _ (Or.inr (Or.inr (Or.inl rfl))) v3⟩,HSv.out.trans h6⟩⟩
   rw [List.flatMap_append,List.flatMap_cons,List.flatMap_nil,List.append_nil,←List.append_assoc]
   exact hJ6
  case done =>
   rintro D zs V hD rfl ⟨hJv,⟨v1,v2,v3⟩,hSv⟩ hK
   have p3:=v3.cell
   have f3:=v3.frozen
   have HV3:=a_ v3
   have HSv:=a_ hSv
   have HJv:=a_ hJv
   clear v1 v2 v3 hSv hJv hI0 hL c3 hbox M5
   gi_wp2
   have hK':=(KeepsOthers.setCell V ⟨W.heap.size+1+1,0,none⟩ (.bool true)).same D _ hK rfl
   refine ⟨by simp,.inl ⟨_,_,rfl,run_takeDeferred hK',?_⟩⟩
   have hc5:=cell_kept (World.cell?_setCell_same' V ⟨W.heap.size+1+1,0,none⟩ (.bool true) (by rw [p3];rfl)) (grownBy_putObj' _ D (.deferred none)) (fun r e=>by cases e;exact ⟨_,hK',rfl⟩)
   have hSW:Stp w0 B0 W V:=(hS4.trans HS45.out).trans HSv.out
   refine ⟨.bool true,?_,rfl,?_,?_⟩
   ·simp [results,Tryd.f153,go_sem,hc5]
   ·refine hJ.put _ ?_ hK' rfl (by omega)
    have hb:=hJ.box (.bool true) HJv.out HV3.out (by omega)
    rw [List.append_assoc] at hb
    exact hb
   ·refine ⟨?_,?_,?_⟩
    ·exact (hSW.below.setCell (p:=⟨W.heap.size+1+1,0,none⟩) (by simp;omega) _).trans (belowK_b (w:=W) hsz _ D _ _ (by omega) hK' rfl rfl)
    ·exact KeepsFrom.far (hSW.from_.trans ((KeepsOthers.setCell _ _ _).from _)) (by omega) hK' rfl _
    ·exact (hSW.kb.far (by omega) _).trans (KB.grown (grownBy_putObj' _ D _) (fun r e=>by cases e;exact ⟨_,hK',rfl⟩))
  case stop =>
   rintro D c pre' V _ _ hf _
   exact hf.elim
attribute [local go_sem] Oper.semAt_some

theorem roots_kf {h:Nat→Nd} {r:Nat}:∀ {G:Fo},RepTop h G→G.ids.Nodup→r∈G.tops→Rep h r (kf r G)∧(h r).first=(kf r G).hd∧(∀ y∈(kf r G).ids,y∈G.ids)∧(kf r G).ids.length < G.ids.length∧(kf r G).ids.Nodup
 | .nil,_,_,hx=>by cases hx
 | .nd j t k n,⟨h1,h2,h3,h4⟩,hn,hx=>by
  obtain ⟨n1,n2,n3,n4,n5⟩:=nodup_nd hn
  unfold kf
  by_cases e:j=r
  ·subst e
   rw [if_pos rfl]
   exact ⟨h3,by rw [h2],fun y hy=>by simp [Fo.ids,hy],by simp [Fo.ids];omega,n3⟩
  ·rw [if_neg e]
   have hx':r∈n.tops:=by
    simp only [Fo.tops,List.mem_cons] at hx
    exact hx.resolve_left fun e'=>e e'.symm
   obtain ⟨g1,g2,g3,g4,g5⟩:=roots_kf h4 n4 hx'
   exact ⟨g1,g2,fun y hy=>by simp [Fo.ids,g3 y hy],by simp [Fo.ids];omega,g5⟩
def ahead_ {α:Type} (part:Nat→List α) (r:Nat):List α:=(List.range' 1 (r - 1)).flatMap part
theorem ahead_succ {α:Type} (part:Nat→List α) (r:Nat) (hr:1≤r):ahead_ part (r+1)=ahead_ part r++part r:=by
 unfold ahead_
 rw [show r+1 - 1=(r - 1)+1 by omega,List.range'_concat,List.flatMap_append]
 simp only [List.flatMap_cons,List.flatMap_nil,List.append_nil,Nat.one_mul]
 rw [show 1+(r - 1)=r by omega]
def AllI {A:Nat→Option Nat} (J:List (YE A)→World→Prop) (part:Nat→List (YE A)) (w0:World) (B0:Nat) (W:World) (v:Value) (V:World):Prop :=
 ∃ r:Nat,1≤r∧r≤4∧v=.int .i64 (r:Int)∧J (ahead_ part r) V∧Stp w0 B0 W V
def AllPost {A:Nat→Option Nat} (J:List (YE A)→World→Prop) (w0:World) (B0:Nat) (l:List (YE A)) (W:World) (e:Ending) (W':World):Prop:=(∃ v,e=.returned v)∧J l W'∧Stp w0 B0 W W'
theorem all1_in (F:Fence) (hd:F.depth=none) (h80:F.fn 152) (h81:F.fn 153) (h56:F.fn 156) (h76:F.fn 157) (hro:F.round=none) (l N B0 q:Nat) {w0:World} {n0 Fb:Nat} {A:Nat→Option Nat} {h:Nat→Nd} (m:Mem w0 n0 Fb A h)
  {G:Fo} (hG:RepTop h G) (hnd:G.ids.Nodup) (hroots:G.tops=[1,2,3]) (hA:∀ x∈G.ids,A x≠none) (h36:G.ids.length≤36)
  (J:List (YE A)→World→Prop) (hJ:Stb B0 J)
  (hY:∀ (q:Nat) (pre:List (YE A)) (x:YE A) (W:World),J pre W→Below w0.heap.size w0 W→pre.length < N→YieldAt F q Tryd.prog l #[.pointer (pa (A x.val)),.int .i64 x.dep] W (WalkPost J w0 B0 (pre++[x]) W))
  (hN:60000≤N) (es:List (YE A)) (hes:es.map YE.pr=pre1 0 G) (Bn:Nat) (W:World) (hBn:Boxed W Bn 121 (.pointer (some ⟨Fb,0,none⟩))) (hB:Below w0.heap.size w0 W) (hB0:B0≤W.heap.size) (hJ0:J [] W) :
  CallsIn F q Tryd.prog 152 #[.func (.yield l) #[] #[],.pointer (some ⟨Bn,0,none⟩)] W (AllPost J w0 B0 es W):=by
 -- the roots' parts
 have hrt:∀ r:Nat,1≤r→r≤3→r∈G.tops:=fun r h1 h2=>by rw [hroots];simp;omega
 obtain ⟨part,hpart⟩:∃ part:Nat→List (YE A),∀ r,1≤r→r≤3→(part r).map YE.pr=(r,0)::pre1 (0+1) (kf r G):=by
  have hok:∀ r:Nat,1≤r∧r≤3→∀ p∈(r,(0:Int))::pre1 (0+1) (kf r G),A p.1≠none∧0≤p.2∧p.2≤1000:=fun r hr p hp=>by
   obtain ⟨g1,g2,g3,g4,g5⟩:=roots_kf hG hnd (hrt r hr.1 hr.2)
   rcases List.mem_cons.1 hp with rfl|hp
   ·exact ⟨hA _ (tops_ids (hrt r hr.1 hr.2)),by simp,by simp⟩
   ·obtain ⟨a1,a2,a3⟩:=pre1_mem hp
    exact ⟨hA _ (g3 _ a1),by omega,by omega⟩
  refine ⟨fun r=>if hr:1≤r∧r≤3 then mkYE A _ (hok r hr) else [],fun r h1 h2=>?_⟩
  have hr:1≤r∧r≤3:=⟨h1,h2⟩
  simp only [dif_pos hr]
  exact mkYE_pr A _ (hok r hr)
 have hes2:es=ahead_ part 4:=by
  apply YE.inj_map
  rw [hes,pre1_kids G 0 hnd,hroots]
  show _=List.map YE.pr ([1,2,3].flatMap part)
  rw [map_flatMap']
  refine flatMap_congr' fun x hx=>?_
  have:1≤x∧x≤3:=by simp at hx;omega
  exact (hpart x this.1 this.2).symm
 have hpl:∀ r,1≤r→r≤3→(part r).length≤36:=fun r h1 h2=>by
  have h3:=congrArg List.length (hpart r h1 h2)
  have h4:=(roots_kf hG hnd (hrt r h1 h2)).2.2.2.1
  rw [List.length_map,List.length_cons,pre1_len] at h3
  omega
 have hal:∀ r,1≤r→r≤4→(ahead_ part r).length≤36 * 3:=fun r h1 h2=>by
  unfold ahead_
  refine Nat.le_trans (flatMap_len part 36 _ fun x hx=>?_) (by rw [List.length_range'];omega)
  have:=List.mem_range'.1 hx
  obtain ⟨i,hi,rfl⟩:=this
  exact hpl _ (by omega) (by omega)
 subst hes2
 have M:=a_ m
 have HB:=a_ hB
 have HBn:=a_ hBn
 have HJ0:=a_ hJ0
 have cB:=hBn.cell
 clear hes hB hBn hJ0
 refine callsIn_any hd (m:=8) ?_
 refine callsIn_of_wp Tryd.func152 rfl h80 ?_ hro
 simp only [Tryd.ntmps152,List.size_toArray,List.length_cons,List.length_nil,Nat.reduceAdd,Nat.reduceSub,Array.replicate_succ,Array.replicate_zero,List.push_toArray,List.append_toArray,List.nil_append,List.cons_append]
 gi_wp2
 gi_loopw [3] (fun v V=>AllI J part w0 B0 W v V) (fun v _=>4 - (intOf v).toNat)
 case atStart=>exact ⟨1,by omega,by omega,rfl,HJ0.out,Stp.refl _ _ _⟩
 case round =>
  obtain ⟨r,hr1,hr4,rfl,hJr,hSr⟩:=hrel
  have cB:=(hSr.kb _ _ _ (Or.inr (Or.inr (Or.inr (Or.inr rfl)))) HBn.out).cell
  by_cases hr3:r≤3
  ·have hd1:decide (r≤3)=true:=dt_ hr3
   have hd2:decide ((r:Int)≤3)=true:=dt_ (by omega)
   have cF:=(M.out.below (HB.out.trans hSr.below)).cF r (by omega)
   obtain ⟨g1,g2,g3,g4,g5⟩:=roots_kf hG hnd (hrt r hr1 hr3)
   have IH:=a_ (wlk_in_ F hd h81 h56 h76 hro l N B0 m J hJ hY 40 (kf r G) (by omega) (8 - 1) r 0 (part r) (ahead_ part r) _ g1 g5 (fun y hy=>hA y (g3 y hy)) (hA _ (tops_ids (hrt r hr1 hr3))) g2 (hpart r hr1 hr3) hJr (HB.out.trans hSr.below) (by have:=hSr.below.size;omega)
    (by have:=hal r hr1 hr4;omega) (by omega) (by omega) (by omega))
   have hi0:0≤(r:Int):=by omega
   have hi37:(r:Int) < 37:=by omega
   have HS:=a_ hSr
   have HR:=a_ (And.intro hr1 hr3)
   have HAS:=a_ (ahead_succ part r hr1)
   clear g1 g2 g3 g4 g5 hJr hSr
   gi_wp2_with (gi_at_call 153;refine (IH.out).mono ?_;clear IH;rintro e W6 ⟨rfl,hJ6,hS6⟩;have HJ6:=a_ hJ6;have HS6:=a_ hS6;clear hJ6 hS6)
   refine ⟨⟨r+1,by have:=HR.out;omega,by have:=HR.out;omega,by simp,by rw [HAS.out];exact HJ6.out,HS.out.trans HS6.out⟩,?_⟩
   have:=HR.out
   simp [intOf]
   omega
  ·have hd1:decide (r≤3)=false:=df_ hr3
   have hd2:decide ((r:Int)≤3)=false:=df_ (by omega)
   obtain rfl:r=4:=by omega
   gi_wp2
   go_end0
   exact ⟨⟨_,rfl⟩,hJr,hSr⟩
#print axioms all1_in
theorem Stp.mono {w0 V W:World} {B B':Nat} (h:Stp w0 B V W) (hB:B≤B'):Stp w0 B' V W:=⟨h.below,KeepsFrom.mono h.from_ hB,h.kb⟩
theorem Stb.mono {β:Type} {B B':Nat} {J:β→World→Prop} (h:Stb B J) (hB:B≤B'):Stb B' J:=fun s V W row hs hg hr=>h s V W row hs hg fun r e=>⟨Nat.le_trans hB (hr r e).1,(hr r e).2⟩
attribute [local go_sem] Oper.semAt_some

end Go.Proofs.YtdpklbomhdpimaaDoor.P
namespace Go.Proofs.YtdpklbomhdpimaaDoor.FP
open Go.Proofs.YtdpklbomhdpimaaDoor.P
theorem set_set (x:Nat) (t t':ByteArray):∀ (F:Fo),setF x t' (setF x t F)=setF x t' F
 | .nil=>rfl
 | .nd j u k n=>by
  simp only [setF,set_set x t t' k,set_set x t t' n]
  congr 1
  split <;> rfl
end Go.Proofs.YtdpklbomhdpimaaDoor.FP
namespace Go.Proofs.YtdpklbomhdpimaaDoor.PL
set_option maxRecDepth 100000
open Go.ChangeShapes Go.WideShapes Go.ChangeAt Go.RowKit Go.Deep Go.Joins Go.Proofs.YtdpklbomhdpimaaDoor.P Go.Proofs.YtdpklbomhdpimaaDoorW.PrintWords Go.Proofs.YtdpklbomhdpimaaDoorW.PrintLast
section
variable {H:Type} {enc:TypeId×Value→H} {w:World} {base:Nat} {sp:Nat→Bool} {held:Bool}
theorem cO:Tryd.prog.cellsOf 34=5:=by kernel_rfl
theorem cX:Tryd.prog.cellsOf 36=7:=by kernel_rfl
theorem cS:Tryd.prog.cellsOf 9=1:=by kernel_rfl
theorem i64_of {n:Int} (h:(Lit.int .i64 n).wf=true):I64 n:=by
 simp only [Lit.wf,Bool.and_eq_true,decide_eq_true_eq] at h
 obtain ⟨h1,h2⟩:=h
 exact ⟨h1,h2⟩
theorem fld_int {n o:Nat} {cs:List Value} {y:DataW H×List MemPlace} (h:DataW.trod enc Tryd.prog w base sp held n 3 ((cs.drop o).take (Tryd.prog.cellsOf 3))=some y):∃ a:Int,cs[o]?=some (.int .i64 a)∧I64 a:=by
 obtain ⟨a,e,_,hw⟩:=DataW.trod_int Tryd.underlying3 h
 refine ⟨a,?_,i64_of hw⟩
 rw [cInt] at e
 have:=congrArg (·[0]?) e
 simpa [List.getElem?_take,List.getElem?_drop] using this
theorem fld_str {n o:Nat} {cs:List Value} {y:DataW H×List MemPlace} (h:DataW.trod enc Tryd.prog w base sp held n 9 ((cs.drop o).take (Tryd.prog.cellsOf 9))=some y):∃ s:ByteArray,cs[o]?=some (.string s)∧s.size≤9223372036854775807:=by
 obtain ⟨s,e,_,hw⟩:=DataW.trod_string Tryd.underlying9 h
 refine ⟨s,?_,hw⟩
 rw [cS] at e
 have:=congrArg (·[0]?) e
 simpa [List.getElem?_take,List.getElem?_drop] using this
theorem open_op {fuel:Nat} {cs:List Value} {y:DataW H×List MemPlace} (h:DataW.trod enc Tryd.prog w base sp held fuel 34 cs=some y) :
  ∃ (a b c d:Int) (s:ByteArray),cs=[.int .i64 a,.int .i64 b,.int .i64 c,.int .i64 d,.string s]∧I64 a∧I64 b∧I64 c∧I64 d∧s.size≤9223372036854775807:=by
 obtain ⟨xs,n,_,_,hl,hlen,hf⟩:=DataW.trod_struct Tryd.underlying34 h
 rw [cO] at hl
 match xs,hlen,hf with
 | [y0,y1,y2,y3,y4],_,hf =>
  obtain ⟨a,e0,w0⟩:=fld_int (o:=0) (hf 0 _ rfl)
  obtain ⟨b,e1,w1⟩:=fld_int (o:=1) (hf 1 _ rfl)
  obtain ⟨c,e2,w2⟩:=fld_int (o:=2) (hf 2 _ rfl)
  obtain ⟨d,e3,w3⟩:=fld_int (o:=3) (hf 3 _ rfl)
  obtain ⟨s,e4,w4⟩:=fld_str (o:=4) (hf 4 _ rfl)
  match cs,hl,e0,e1,e2,e3,e4 with
  | [c0,c1,c2,c3,c4],_,e0,e1,e2,e3,e4 =>
   simp only [List.getElem?_cons_zero,List.getElem?_cons_succ,Option.some.injEq] at e0 e1 e2 e3 e4
   subst e0 e1 e2 e3 e4
   exact ⟨a,b,c,d,s,rfl,w0,w1,w2,w3,w4⟩
theorem open_entry {fuel:Nat} {cs:List Value} {y:DataW H×List MemPlace} (h:DataW.trod enc Tryd.prog w base sp held fuel 36 cs=some y) :
  ∃ e:S36,cs=[.int .i64 e.f0,.int .i64 e.f1,.int .i64 e.f2.f0,.int .i64 e.f2.f1,.int .i64 e.f2.f2,.int .i64 e.f2.f3,.string e.f2.f4]∧wfX e:=by
 obtain ⟨xs,n,_,_,hl,hlen,hf⟩:=DataW.trod_struct Tryd.underlying36 h
 rw [cX] at hl
 match xs,hlen,hf with
 | [y0,y1,y2],_,hf =>
  obtain ⟨a,e0,w0⟩:=fld_int (o:=0) (hf 0 _ rfl)
  obtain ⟨b,e1,w1⟩:=fld_int (o:=1) (hf 1 _ rfl)
  have h2:DataW.trod enc Tryd.prog w base sp held n 34 ((cs.drop 2).take (Tryd.prog.cellsOf 34))=some y2:=hf 2 _ rfl
  obtain ⟨o0,o1,o2,o3,s,e2,u0,u1,u2,u3,u4⟩:=open_op h2
  rw [cO] at e2
  match cs,hl,e0,e1,e2 with
  | [c0,c1,c2,c3,c4,c5,c6],_,e0,e1,e2 =>
   simp only [List.getElem?_cons_zero,List.getElem?_cons_succ,Option.some.injEq] at e0 e1
   subst e0 e1
   simp only [List.drop_succ_cons,List.drop_zero,List.take_succ_cons,List.take_zero,List.cons.injEq,and_true] at e2
   obtain ⟨rfl,rfl,rfl,rfl,rfl⟩:=e2
   exact ⟨⟨a,b,⟨o0,o1,o2,o3,s⟩⟩,rfl,w0,w1,u0,u1,u2,u3,u4⟩
theorem list_of_all {α:Type} (P:Nat→α→Prop):∀ n:Nat,(∀ i,i < n→∃ e,P i e)→∃ l:List α,l.length=n∧∀ i e,l[i]?=some e→P i e
 | 0,_=>⟨[],rfl,fun i e h=>by simp at h⟩
 | n+1,h=>by
  obtain ⟨l,hl,hp⟩:=list_of_all P n (fun i hi=>h i (by omega))
  obtain ⟨e,he⟩:=h n (by omega)
  refine ⟨l++[e],by simp [hl],fun i x hx=>?_⟩
  rcases Nat.lt_or_ge i l.length with hi|hi
  ·rw [List.getElem?_append_left hi] at hx
   exact hp i x hx
  ·rw [List.getElem?_append_right hi] at hx
   have h0:i - l.length=0:=by
    rcases Nat.eq_zero_or_pos (i - l.length) with h0|h0
    ·exact h0
    ·rw [List.getElem?_eq_none (by simp;omega)] at hx
     cases hx
   rw [h0] at hx
   simp only [List.getElem?_cons_zero,Option.some.injEq] at hx
   subst hx
   rw [show i=n by omega]
   exact he
theorem open_entries {fuel:Nat} {cs:List Value} {y:DataW H×List MemPlace} (h:DataW.trod enc Tryd.prog w base sp held fuel 30 cs=some y) :
  ∃ (A:Option Addr) (cap:Nat) (l:List S36),cs=[.slice A l.length cap]∧Kd.C k36 w A l.length l∧l.length≤cap∧l.length≤9223372036854775807∧∀ e∈l,wfX e:=by
 rcases open_slice Tryd.underlying30 h with ⟨rfl,_⟩|⟨a,len,cap,m,n,D,Pl,rfl,_,hl,hm,hmm,_,hel⟩
 ·exact ⟨none,0,[],rfl,Kd.C_nil _ _,by simp,by simp,fun e he=>by cases he⟩
 ·have hlm:len≤m:=by rw [hmm];split <;> omega
  obtain ⟨l,hlen,hp⟩:=list_of_all (fun i (e:S36)=>wfX e∧w.cells? base (a.add (i * 7)) 7=some [.int .i64 e.f0,.int .i64 e.f1,.int .i64 e.f2.f0,.int .i64 e.f2.f1,.int .i64 e.f2.f2,.int .i64 e.f2.f3,.string e.f2.f4]) len (fun i hi=>by
   obtain ⟨cs',hc,hd⟩:=hel i (by omega)
   obtain ⟨e,rfl,hw⟩:=open_entry hd
   rw [cX] at hc
   exact ⟨e,hw,hc⟩)
  have hmx:cap≤9223372036854775807:=hm
  refine ⟨some a,cap,l,by rw [hlen],⟨rfl,by omega,fun _=>⟨a,rfl,fun j p hj=>?_⟩⟩,by omega,by omega,fun e he=>?_⟩
  ·obtain ⟨_,hc⟩:=hp j p hj
   refine ⟨_,rfl,k36_mk w p,fun i u hu=>?_⟩
   obtain ⟨_,hlc,hc2⟩:=World.cells?_some hc
   have hi:i < 7:=by
    rcases Nat.lt_or_ge i 7 with hi|hi
    ·exact hi
    ·rw [List.getElem?_eq_none (by rw [hlc];exact hi)] at hu
     cases hu
   have:=hc2 i hi
   rw [hu] at this
   show w.cell? (a.add (j * 7+i))=some u
   rw [←this]
   congr 1
   generalize j * 7=x
   unfold Addr.add
   by_cases h1:x=0 <;> by_cases h2:i=0 <;> simp [h1,h2,Nat.add_assoc]
  ·obtain ⟨i,hi,rfl⟩:=List.getElem_of_mem he
   exact (hp i _ (List.getElem?_eq_getElem hi)).1
theorem open_server {v:Value} {d:DataW H} {p:List MemPlace} (hv:Value.okWide Tryd.prog w .any base 32 v) (h:DataW.Trod enc Tryd.prog w 0 sp held 32 v d p) :
  ∃ (A:Option Addr) (cap:Nat) (l:List S36) (s:Int) (u:Bool),v=.agg #[.slice A l.length cap,.int .i64 s,.bool u]∧Kd.C k36 w A l.length l∧l.length≤cap∧l.length≤9223372036854775807∧(∀ e∈l,wfX e)∧I64 s:=by
 obtain ⟨v0,v1,v2,y0,y1,y2,n,rfl,rfl,rfl,h0,h1,h2⟩:=open_agg3 Tryd.underlying32 (by kernel_rfl) (by kernel_rfl) hv h
 obtain ⟨A,cap,l,e0,hC,hc,hl,hw⟩:=open_entries h0
 obtain ⟨s,e1,_,hs⟩:=DataW.trod_int Tryd.underlying3 h1
 obtain ⟨u,e2,_⟩:=DataW.trod_bool Tryd.underlying4 h2
 obtain rfl:=(List.cons.inj e0).1
 obtain rfl:=(List.cons.inj e1).1
 obtain rfl:=(List.cons.inj e2).1
 exact ⟨A,cap,l,s,u,rfl,hC,hc,hl,hw,i64_of hs⟩
theorem open_entryV {v:Value} {d:DataW H} {p:List MemPlace} (hv:Value.okWide Tryd.prog w .any base 36 v) (h:DataW.Trod enc Tryd.prog w 0 sp held 36 v d p) :
  ∃ e:S36,v=.agg #[.int .i64 e.f0,.int .i64 e.f1,.int .i64 e.f2.f0,.int .i64 e.f2.f1,.int .i64 e.f2.f2,.int .i64 e.f2.f3,.string e.f2.f4]∧wfX e:=by
 obtain ⟨cs,rfl,hsz⟩:=okWide_struct Tryd.underlying36 hv
 obtain ⟨fuel,hf⟩:=h
 obtain ⟨e,he,hw⟩:=open_entry hf
 refine ⟨e,?_,hw⟩
 have he':cs.toList=[.int .i64 e.f0,.int .i64 e.f1,.int .i64 e.f2.f0,.int .i64 e.f2.f1,.int .i64 e.f2.f2,.int .i64 e.f2.f3,.string e.f2.f4]:=he
 rw [show cs=cs.toList.toArray by simp,he']
end
end Go.Proofs.YtdpklbomhdpimaaDoor.PL
namespace Go.Proofs.YtdpklbomhdpimaaDoor.fnExactServerHear
open Go.ChangeMaps (open_string shut_string)
open Go.ChangeShapes Go.WideShapes Go.ChangeAt Go.RowKit
theorem own:ownKnob Tryd.prog.godebug=none:=by kernel_rfl
theorem laidOut:laidOutB Tryd.prog=true:=by kernel_rfl
theorem lifted (os:Os) (started:os.Started) (H:Type) (enc:TypeId×Value→H) :
  ReturnsInHanded {} Tryd.checked os 4 .any (fun w args=>(Rows.fnExactServerHearSpec.pre enc Tryd.prog Tryd.f4 [] false w args∧laidMet Tryd.prog [("loop.example/plashet/impl.rowOwners",Rows.laid_loop_example_plashet_impl_rowOwners)] w)∧sizedMet enc Tryd.prog Tryd.f4 (OpenSpec.ofChange Rows.fnExactServerHearSpec) false w args) (Rows.fnExactServerHearSpec.post enc Tryd.prog Tryd.f4 false true false false):=by
 refine returnsInHanded_of_change_and (C:=Tryd.checked) (X:=fun w _=>laidMet Tryd.prog [("loop.example/plashet/impl.rowOwners",Rows.laid_loop_example_plashet_impl_rowOwners)] w) (fun _ _ _ hh h=>h.of_heap hh) own started (by kernel_rfl) Tryd.func4
  (ChangeSpec.witness_shaped (enc:=enc) (C:=Tryd.checked) (os:=os) (X:=fun w _=>laidMet Tryd.prog [("loop.example/plashet/impl.rowOwners",Rows.laid_loop_example_plashet_impl_rowOwners)] w) false (World.doorLaid Tryd.prog 400 os) #[.agg #[.slice none 0 0,.int .i64 0,.bool false],.agg #[.int .i64 0,.int .i64 0,.int .i64 0,.int .i64 0,.int .i64 0,.int .i64 0,.string ⟨#[]⟩]] 8 rfl (World.shaped_of_RefB (by kernel_rfl) (by kernel_rfl)) (by kernel_rfl) (by kernel_rfl) (by kernel_rfl) (P.door_met os _)) ?_
 intro W base args ds gs before hval0 hW _ _ hL _
 have hval:∀ (j:Nat) t v,Tryd.f4.params[j]?=some t→args[j]?=some v→Value.okWide Tryd.prog W .any base t v:=hval0
 have hW':=hW
 obtain ⟨p,q,hA0,hV,rfl,hfz,hnd⟩:=hW
 have hA:DataW.TrodAll enc Tryd.prog W 0 (fun _=>true) true Tryd.f4.params.toList args.toList ds p:=hA0
 rw [Tryd.params4] at hA hval
 obtain ⟨v0,vs0,d0,ds0,p0,q0,hargs,rfl,rfl,h0,r0⟩:=trodAll_cons hA
 obtain ⟨v1,vs1,d1,ds1,p1,q1,rfl,rfl,rfl,h1,r1⟩:=trodAll_cons r0
 obtain ⟨rfl,rfl,rfl⟩:=trodAll_nil r1
 obtain rfl:args=#[v0,v1]:=by cases args;simp_all
 have hG:P.Glob W:=P.glob_of_laid hL
 obtain ⟨gv,tv,csv,fuelv,dv,pv,rfl,hgv,htv,hvarv,hdv,rfl⟩:=trodVars_one hV
 obtain rfl:csv=P.ownCells:=Option.some.inj (hvarv.symm.trans hG)
 obtain rfl:=Option.some.inj (P.tOwners.symm.trans (by rw [Option.some.inj (P.gOwners.symm.trans hgv)];exact htv))
 obtain ⟨rfl,rfl⟩:=DataW.Trod.unique (v:=.agg P.ownCells) ⟨fuelv,hdv⟩ ⟨3,P.reads_table enc W _⟩
 have k0:=h0
 have lt0:∀ x∈p0,x.block < W.heap.size:=by obtain ⟨m,hm⟩:=k0;exact DataW.trod_lt m _ _ _ hm
 obtain ⟨A0,c0,l0,s0,u0,rfl,hC0,hc0,hL0,hw0,hs0⟩:=PL.open_server (hval 0 32 v0 rfl rfl) h0
 have k1:=h1
 have lt1:∀ x∈p1,x.block < W.heap.size:=by obtain ⟨m,hm⟩:=k1;exact DataW.trod_lt m _ _ _ hm
 obtain ⟨e1,rfl,we1⟩:=PL.open_entryV (hval 1 36 v1 rfl rfl) h1
 clear hA0 hval0
 obtain ⟨k,hk⟩:=PL.FnExactServerHear l0 s0 u0 e1 hw0 hL0 we1
 refine (P.laws_FnExactServerHear.calls k _ _ l0 s0 u0 e1.f0 e1.f1 e1.f2.f0 e1.f2.f1 e1.f2.f2 e1.f2.f3 e1.f2.f4 true W hC0 hc0 hk hG).mono fun e W' ⟨he,bel⟩=>?_
 subst he
 exact ⟨_,rfl,_,_,_,_,_,_,hW',trodAll_mk1 (shut_bool Tryd.underlying4 _),(trodAll_cons_mk (Below.trod laidOut (by kernel_rfl) (of_decide_eq_true (by kernel_rfl)) k0 bel lt0) (trodAll_cons_mk (Below.trod laidOut (by kernel_rfl) (of_decide_eq_true (by kernel_rfl)) k1 bel lt1) trodAll_mk0)),P.tab_vars enc (hG.below bel),bel.frame _,fun h=>by cases h⟩
theorem proved:Rows.FnExactServerHearSaid :=
 OpenClaim.holds_of_wide 4 Tryd.f4 rfl rfl rfl rfl rfl rfl rfl ⟨rfl,rfl,rfl,rfl,rfl⟩ rfl rfl rfl rfl rfl (by kernel_rfl) Tryd.func4 (by kernel_rfl)
  (of_decide_eq_true (by kernel_rfl)) (by unfold Func.isWrapper;first|(rw [if_pos (by decide +kernel)];kernel_rfl)|(rw [if_neg (by decide +kernel)];exact ⟨rfl,rfl⟩))
  (fun os started H enc _=>lifted os started H enc)
end Go.Proofs.YtdpklbomhdpimaaDoor.fnExactServerHear
namespace Go.Proofs.YtdpklbomhdpimaaDoor
theorem fnExactServerHear_holds:Rows.FnExactServerHearSaid:=fnExactServerHear.proved
end Go.Proofs.YtdpklbomhdpimaaDoor
namespace Go.Proofs.YtdpklbomhdpimaaDoor
open Go
theorem fnExactServerHearCard_holds:Rows.FnExactServerHearCardSaid :=
 Claim7.holds_tied_plain_at .later [] [.data] true (true, "7cf51d42195f9c9b62136c7a8c7100de8c719db44b2d768f6f24e257b781f613") true
  fnExactServerHear_holds (fun _ h=>by cases h) (by kernel_rfl) (fun _ h=>by cases h) fnExactServerHear_row_tie rfl ⟨rfl,rfl⟩ (by kernel_rfl) rfl
  (fun f fn hf hfn=>by
   obtain rfl:f=4:=Option.some.inj ((show Tryd.prog.funcNamed "loop.example/plashet/laws.FnExactServerHear" = some 4 by kernel_rfl).symm.trans hf) |>.symm
   obtain rfl:fn=Tryd.f4:=(Option.some.inj (Tryd.func4.symm.trans hfn)).symm
   exact ⟨by kernel_rfl,fun j t ht=>by
    rw [Tryd.params4] at ht
    have hm:t∈[32,36]:=by have:=Array.mem_of_getElem? ht;simp at this;first|(subst this;simp;done)|(rcases this with h|h <;> simp [h];done)|(rcases this with h|h|h <;> simp [h];done)
    have hall:([32,36].all fun u=>!Tryd.prog.wantsStandIn u)=true:=by kernel_rfl
    exact (show Tryd.prog.wantsStandIn t=false by simpa using List.all_eq_true.1 hall t hm)⟩)
  (by kernel_rfl)
#print axioms fnExactServerHearCard_holds
end Go.Proofs.YtdpklbomhdpimaaDoor
