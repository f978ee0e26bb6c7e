/- Joined by a program (wip/shake.py): the declarations that 'YtdpklbomhdpimaaDoorCardFnHearAgain' reaches. -/
import Derived.Test.YtdpklbomhdpimaaDoorHb7
set_option linter.unusedVariables false
set_option linter.unusedSimpArgs false
set_option linter.unusedSectionVars false
set_option maxHeartbeats 8000000
set_option maxRecDepth 100000
namespace Go.Proofs.YtdpklbomhdpimaaDoor.P
open Go.RowKit Go.Proofs.YtdpklbomhdpimaaDoorW.PrintWords Go.Proofs.YtdpklbomhdpimaaDoorW.PrintLast
attribute [local go_sem high] eqA69

end Go.Proofs.YtdpklbomhdpimaaDoor.P
namespace Go.Proofs.YtdpklbomhdpimaaDoor.PL
open Go.RowKit Go.Proofs.YtdpklbomhdpimaaDoor.P Go.Proofs.YtdpklbomhdpimaaDoorW.PrintWords Go.Proofs.YtdpklbomhdpimaaDoorW.PrintLast
theorem evnow {α:Type} (a:α):Ev (fun _=>some a) a:=⟨0,fun _ _=>rfl⟩
theorem ev_neg {α:Type} {c:Prop} [Decidable c] {f g:Nat→Option α} {r:α} (h:¬ c) (k:Ev g r):Ev (fun n=>if c then f n else g n) r:=Ev.congr (fun _=>if_neg h) k
theorem ev_pos {α:Type} {c:Prop} [Decidable c] {f g:Nat→Option α} {r:α} (h:c) (k:Ev f r):Ev (fun n=>if c then f n else g n) r:=Ev.congr (fun _=>if_pos h) k
theorem wrapS (i:Int) (h0:0≤i) (h:i≤4611686018427387904):wrap64 (i+1)=i+1:=by unfold wrap64;omega
theorem wrapT (i:Int) (h0:0≤i) (h:i+1≤9223372036854775807):wrap64 (i+1)=i+1:=by unfold wrap64;omega
def I64 (a:Int):Prop:=-9223372036854775808≤a∧a≤9223372036854775807

def madeB (a:Int):Bool:=decide (ownI a≠0)&&decide (ownI a≠1)
def rootB (a:Int):Bool:=decide (1≤a)&&decide (a≤3)
theorem in_f (a b c:Int):spec_l6In.f a b c=some (decide (b≤a)&&decide (a≤c)):=by
 unfold spec_l6In.f
 by_cases h:a≥b
 ·rw [if_pos h];simp [h]
 ·rw [if_neg h];simp [show ¬ b≤a from h]
theorem ownI_out (a:Int) (h:a < 0∨37≤a):ownI a=0:=by
 unfold ownI
 rw [if_neg (by omega)]
theorem small_made:∀ n:Nat,n < 37→(decide (1≤Int.tdiv (n:Int) 10)&&decide (Int.tdiv (n:Int) 10≤3))=true→(decide (1≤Int.tmod (n:Int) 10)&&decide (Int.tmod (n:Int) 10≤6))=madeB n:=by decide
theorem small_unmade:∀ n:Nat,n < 37→(decide (1≤Int.tdiv (n:Int) 10)&&decide (Int.tdiv (n:Int) 10≤3))=false→madeB n=false:=by decide
theorem small_who:∀ n:Nat,n < 37→madeB n=true→ownI n - 1=Int.tdiv (n:Int) 10:=by decide
theorem small_root:∀ n:Nat,n < 37→(decide (ownI n≠0)&&decide (ownI n - 1=0))=rootB n:=by decide
theorem tdiv_wrap (a:Int) (h:I64 a):wrap64 (Int.tdiv a 10)=Int.tdiv a 10:=by
 obtain ⟨h1,h2⟩:=h
 have:Int.tdiv a 10≤9223372036854775807∧-9223372036854775808≤Int.tdiv a 10:=by
  rcases Int.le_total 0 a with h0|h0
  ·rw [Int.tdiv_eq_ediv_of_nonneg h0];omega
  ·have e:Int.tdiv a 10=-(Int.tdiv (-a) 10):=by rw [Int.neg_tdiv,Int.neg_neg]
   rw [e,Int.tdiv_eq_ediv_of_nonneg (by omega)];omega
 unfold wrap64;omega
theorem made_f (a:Int) (h:I64 a):spec_l1Made.f a=some (madeB a):=by
 unfold spec_l1Made.f
 rw [in_f,in_f,tdiv_wrap a h]
 simp only [Option.bind_some]
 by_cases hs:0≤a∧a < 37
 ·obtain ⟨n,rfl⟩:∃ n:Nat,a=n:=⟨a.toNat,by omega⟩
  have hn:n < 37:=by omega
  cases hd:(decide (1≤Int.tdiv (n:Int) 10)&&decide (Int.tdiv (n:Int) 10≤3)) with
  | true=>rw [if_pos rfl,small_made n hn hd]
  | false=>rw [if_neg (by decide),small_unmade n hn hd]
 ·have ho:madeB a=false:=by unfold madeB;rw [ownI_out a (by omega)];rfl
  rw [ho]
  rcases Int.lt_or_le a 0 with h0|h0
  ·have e:Int.tdiv a 10=-(Int.tdiv (-a) 10):=by rw [Int.neg_tdiv,Int.neg_neg]
   have h1:Int.tdiv a 10≤0:=by rw [e,Int.tdiv_eq_ediv_of_nonneg (by omega)];omega
   have h2:decide (1≤Int.tdiv a 10)=false:=df_ (by omega)
   rw [h2]
   simp
  ·have e1:=Int.tdiv_eq_ediv_of_nonneg (b:=10) h0
   have e2:Int.tmod a 10=a % 10:=Int.tmod_eq_emod_of_nonneg h0
   rw [e1,e2]
   by_cases h3:a / 10≤3
   ·have h4:decide (a % 10≤6)=false:=df_ (by omega)
    rw [h4]
    simp
   ·have h4:decide (a / 10≤3)=false:=df_ h3
    rw [h4]
    simp
theorem isMade_f (a:Int):impl_isMade.f a=some (madeB a):=by
 unfold impl_isMade.f impl_RowWho.f madeB
 simp only [Option.bind_some]
 by_cases h0:ownI a=0
 ·rw [if_pos h0];simp [h0]
 ·rw [if_neg h0]
  by_cases h1:ownI a=1
  ·simp [h1]
  ·simp [h0,h1]
   omega
theorem isRoot_f (a:Int):impl_isRoot.f a=some (rootB a):=by
 unfold impl_isRoot.f impl_RowWho.f
 simp only [Option.bind_some]
 by_cases hs:0≤a∧a < 37
 ·obtain ⟨n,rfl⟩:∃ n:Nat,a=n:=⟨a.toNat,by omega⟩
  have:=small_root n (by omega)
  rw [←this]
  by_cases h0:ownI (n:Int)=0
  ·rw [if_pos h0];simp [h0]
  ·rw [if_neg h0]
   by_cases h1:ownI (n:Int) - 1=0 <;> simp [h0,h1]
 ·rw [if_pos (ownI_out a (by omega))]
  have:rootB a=false:=by unfold rootB;simp;omega
  rw [this]
  simp
theorem root_f (a:Int):spec_l1Root.f a=some (rootB a):=by
 unfold spec_l1Root.f
 rw [in_f]
 rfl
def idB (a:Int):Bool:=rootB a || madeB a
theorem id_f (a:Int) (h:I64 a):spec_l3Id.f a=some (idB a):=by
 unfold spec_l3Id.f idB
 rw [root_f,made_f a h]
 simp only [Option.bind_some]
 cases rootB a <;> simp
def placeB (u a:Int):Bool:=idB u&&(decide (a=0) || madeB a)
theorem place_f (u a:Int):impl_placeOk.f u a=some (placeB u a):=by
 unfold impl_placeOk.f placeB idB
 rw [isMade_f,isMade_f,isRoot_f]
 simp only [Option.bind_some]
 by_cases h:a=0
 ·simp only [h,if_true]
  cases madeB u <;> cases rootB u <;> simp
 ·simp only [h,if_false]
  cases madeB u <;> cases rootB u <;> simp
def textFrom (s:ByteArray) (i:Nat):Nat→Bool
 | 0=>true
 | n+1=>decide (97≤bt s i)&&decide (bt s i≤100)&&textFrom s (i+1) n
def textB (s:ByteArray):Bool:=textFrom s 0 s.size&&decide (s.size≤4)
theorem bt_range (s:ByteArray) (i:Int):0≤bt s i∧bt s i≤255:=by
 unfold bt
 split
 ·rename_i h
  have:=(s[i.toNat]'h).toNat_lt
  omega
 ·omega
theorem text_l0 (s:ByteArray) (hs:s.size≤9223372036854775807):∀ (n:Nat) (i:Nat),i+n=s.size→Ev (fun k=>spec_l1Text.l0 k s i) (textFrom s i n&&decide (s.size≤4))
 | 0,i,h=>by
  refine Ev.step (f:=fun _=>some (decide ((s.size:Int)≤4))) (fun k=>?_) ?_
  ·simp only [spec_l1Text.l0];rw [if_neg (by omega)]
  ·have:decide ((s.size:Int)≤4)=(textFrom s i 0&&decide (s.size≤4)):=by simp [textFrom];omega
   rw [this];exact evnow _
 | n+1,i,h=>by
  have hw:wrap64 (bt s i)=bt s i:=by have:=bt_range s i;unfold wrap64;omega
  unfold textFrom
  cases ht:(decide (97≤bt s i)&&decide (bt s i≤100)) with
  | true =>
   rw [Bool.true_and]
   refine Ev.step (fun k=>?_) (text_l0 s hs n (i+1) (by omega))
   simp only [spec_l1Text.l0]
   rw [if_pos (by omega),if_pos (by omega),hw,in_f,ht,Option.bind_some,if_pos rfl,wrapT i (by omega) (by omega)]
   rfl
  | false =>
   rw [Bool.false_and,Bool.false_and]
   refine Ev.step (f:=fun _=>some false) (fun k=>?_) (evnow _)
   simp only [spec_l1Text.l0]
   rw [if_pos (by omega),if_pos (by omega),hw,in_f,ht,Option.bind_some,if_neg (by decide)]
theorem text_f (s:ByteArray) (hs:s.size≤9223372036854775807):Ev (fun k=>spec_l1Text.f k s) (textB s):=text_l0 s hs s.size 0 (by omega)
theorem itext_l0 (s:ByteArray) (hs:s.size≤9223372036854775807):∀ (n:Nat) (i:Nat),i+n=s.size→Ev (fun k=>impl_textOk.l0 k s i) (textFrom s i n)
 | 0,i,h=>by
  refine Ev.step (f:=fun _=>some true) (fun k=>?_) (evnow _)
  simp only [impl_textOk.l0];rw [if_neg (by omega)]
 | n+1,i,h=>by
  unfold textFrom
  by_cases h1:bt s i < 97
  ·have:decide (97≤bt s i)=false:=df_ (by omega)
   rw [this,Bool.false_and,Bool.false_and]
   refine Ev.step (f:=fun _=>some false) (fun k=>?_) (evnow _)
   simp only [impl_textOk.l0]
   rw [if_pos (by omega),if_pos (by omega),if_pos h1]
  ·by_cases h2:bt s i > 100
   ·have:decide (bt s i≤100)=false:=df_ (by omega)
    rw [this,Bool.and_false,Bool.false_and]
    refine Ev.step (f:=fun _=>some false) (fun k=>?_) (evnow _)
    simp only [impl_textOk.l0]
    rw [if_pos (by omega),if_pos (by omega),if_neg h1,if_pos h2]
   ·have e1:decide (97≤bt s i)=true:=dt_ (by omega)
    have e2:decide (bt s i≤100)=true:=dt_ (by omega)
    rw [e1,e2,Bool.true_and,Bool.true_and]
    refine Ev.step (fun k=>?_) (itext_l0 s hs n (i+1) (by omega))
    simp only [impl_textOk.l0]
    rw [if_pos (by omega),if_pos (by omega),if_neg h1,if_neg h2,wrapT i (by omega) (by omega)]
    rfl
theorem itext_f (s:ByteArray) (hs:s.size≤9223372036854775807):Ev (fun k=>impl_textOk.f k s) (textB s):=by
 unfold impl_textOk.f textB
 by_cases h:(s.size:Int) > 4
 ·refine ev_pos h ?_
  have:decide (s.size≤4)=false:=df_ (by omega)
  rw [this,Bool.and_false]
  exact evnow _
 ·refine ev_neg h ?_
  have:decide (s.size≤4)=true:=dt_ (by omega)
  rw [this,Bool.and_true]
  exact itext_l0 s hs s.size 0 (by omega)
theorem text_nil (s:ByteArray) (h:s.toList.isEmpty=true):textB s=true:=by
 have:s.size=0:=by
  have h2:=List.isEmpty_iff.1 h
  have h3:s.toList.length=s.size:=by rw [Go.ByteArray.toList_eq];exact Array.length_toList
  rw [←h3,h2];rfl
 unfold textB
 rw [this]
 rfl
def opB (k i u a:Int) (s:ByteArray):Bool :=
 madeB i&&(if k=1 then placeB u a&&textB s else if k=2 then decide (u=0)&&decide (a=0)&&textB s else if k=3 then placeB u a&&s.toList.isEmpty else false)
theorem opOk_f (k i u a:Int) (s:ByteArray) (hs:s.size≤9223372036854775807):Ev (fun n=>impl_OpOk.f n k i u a s) (opB k i u a s):=by
 unfold impl_OpOk.f impl_changeOf.f opB
 rw [isMade_f]
 simp only [Option.bind_some]
 cases madeB i with
 | false=>simp only [Bool.false_eq_true,if_false,Bool.false_and];exact evnow _
 | true =>
  simp only [if_true,Bool.true_and,place_f,Option.bind_some]
  by_cases h1:k=1
  ·simp only [h1,if_true]
   cases placeB u a with
   | true=>simp only [if_true,Bool.true_and];exact itext_f s hs
   | false=>simp only [Bool.false_eq_true,if_false,Bool.false_and];exact evnow _
  ·simp only [h1,if_false]
   by_cases h2:k=2
   ·simp only [h2,if_true]
    by_cases h3:u=0
    ·by_cases h4:a=0
     ·simp only [h3,h4,if_true,decide_true,Bool.true_and];exact itext_f s hs
     ·simp only [h3,h4,if_true,if_false,decide_true,decide_false,Bool.true_and,Bool.false_and];exact evnow _
    ·simp only [h3,if_false,decide_false,Bool.false_and];exact evnow _
   ·simp only [h2,if_false]
    by_cases h3:k=3
    ·simp only [h3,if_true]
     cases placeB u a with
     | true=>simp only [if_true,Bool.true_and];exact evnow _
     | false=>simp only [Bool.false_eq_true,if_false,Bool.false_and];exact evnow _
    ·simp only [h3,if_false];exact evnow _
theorem sop_f (k i u a:Int) (s:ByteArray) (hi:I64 i) (hu:I64 u) (ha:I64 a) (hs:s.size≤9223372036854775807):Ev (fun n=>spec_OpOk.f n k i u a s) (opB k i u a s):=by
 unfold spec_OpOk.f opB
 rw [made_f i hi]
 simp only [Option.bind_some]
 cases madeB i with
 | false =>
  simp only [Bool.false_eq_true,if_false,Bool.false_and]
  refine Ev.step (f:=fun _=>some false) (fun n=>?_) (evnow _)
  simp only [spec_OpOk.j0,if_true]
 | true =>
  simp only [if_true,Bool.true_and]
  refine Ev.bind (text_f s hs) ?_
  have hp:(idB u&&(decide (a=0) || madeB a))=placeB u a:=rfl
  cases ht:textB s with
  | false =>
   have hne:s.toList.isEmpty=false:=by
    cases he:s.toList.isEmpty with
    | false=>rfl
    | true=>rw [text_nil s he] at ht;cases ht
   refine Ev.step (f:=fun _=>some false) (fun n=>?_) ?_
   ·simp only [spec_OpOk.j0,Bool.not_false,if_true]
   ·simp only [hne,Bool.and_false,ite_self]
    exact evnow _
  | true =>
   refine Ev.step (f:=fun _=>some (if k=1 then placeB u a&&true else if k=2 then decide (u=0)&&decide (a=0)&&true else if k=3 then placeB u a&&s.toList.isEmpty else false)) (fun n=>?_) (evnow _)
   simp only [spec_OpOk.j0,Bool.not_true,Bool.false_eq_true,if_false]
   rw [id_f u hu,made_f a ha]
   simp only [Option.bind_some,Bool.and_true]
   rw [←hp]
   have hnil:(s.toList==([]:List UInt8))=s.toList.isEmpty:=by cases s.toList <;> rfl
   rw [hnil]
   by_cases h1:k=1
   ·simp only [h1,if_true]
    by_cases h4:a=0
    ·simp only [h4,if_true,decide_true,Bool.true_or,Bool.and_true];cases idB u <;> simp
    ·simp only [h4,if_false,decide_false,Bool.false_or];cases idB u <;> simp
   ·simp only [h1,if_false]
    by_cases h2:k=2
    ·simp only [h2,if_true]
     by_cases h3:u=0
     ·simp [h3];by_cases h4:a=0 <;> simp [h4]
     ·simp [h3]
    ·simp only [h2,if_false]
     by_cases h3:k=3
     ·simp only [h3,if_true]
      by_cases h4:a=0
      ·simp only [h4,if_true,decide_true,Bool.true_or,Bool.and_true];cases idB u <;> simp
      ·simp only [h4,if_false,decide_false,Bool.false_or];cases idB u <;> cases madeB a <;> simp
     ·simp only [h3,if_false]
theorem made_small (a:Int) (h:madeB a=true):0≤a∧a < 37:=by
 rcases Int.lt_or_le a 0 with h0|h0
 ·unfold madeB at h;rw [ownI_out a (by omega)] at h;simp at h
 ·rcases Int.lt_or_le a 37 with h1|h1
  ·exact ⟨h0,h1⟩
  ·unfold madeB at h;rw [ownI_out a (by omega)] at h;simp at h
theorem opB_made (k i u a:Int) (s:ByteArray) (h:opB k i u a s=true):madeB i=true:=by
 unfold opB at h
 simp only [Bool.and_eq_true] at h
 exact h.1
def wfE (e:S44):Prop:=I64 e.f0∧I64 e.f1∧I64 e.f2.f0∧I64 e.f2.f1∧I64 e.f2.f2∧I64 e.f2.f3∧e.f2.f4.size≤9223372036854775807
def entB (e:S44):Bool :=
 decide (1≤e.f0)&&decide (e.f0≤3)&&(decide (1≤e.f1)&&decide (e.f1≤40))&&opB e.f2.f0 e.f2.f1 e.f2.f2 e.f2.f3 e.f2.f4&&(decide (e.f2.f0≠1) || decide (ownI e.f2.f1 - 1=e.f0))
theorem who_made (i:Int) (h:madeB i=true):ownI i - 1=wrap64 (Int.tdiv i 10):=by
 obtain ⟨h0,h1⟩:=made_small i h
 obtain ⟨n,rfl⟩:∃ n:Nat,i=n:=⟨i.toNat,by omega⟩
 rw [tdiv_wrap _ ⟨by omega,by omega⟩]
 exact small_who n (by omega) h
theorem ent_f (e:S44) (h:wfE e):Ev (fun n=>impl_EntryOk.f n e.f0 e.f1 e.f2.f0 e.f2.f1 e.f2.f2 e.f2.f3 e.f2.f4) (entB e):=by
 obtain ⟨h0,h1,h2,h3,h4,h5,h6⟩:=h
 unfold impl_EntryOk.f impl_whoOk.f entB
 by_cases a1:e.f0≥1
 ·simp only [a1,if_true,Option.bind_some,ge_iff_le,decide_true,Bool.true_and]
  cases a2:decide (e.f0≤3) with
  | false=>simp only [Bool.false_eq_true,if_false,Bool.false_and];exact evnow _
  | true =>
   simp only [if_true,Bool.true_and]
   by_cases a3:e.f1 < 1
   ·have:decide (1≤e.f1)=false:=df_ (by omega)
    simp only [a3,if_true,this,Bool.false_and];exact evnow _
   ·have e3:decide (1≤e.f1)=true:=dt_ (by omega)
    by_cases a4:e.f1 > 40
    ·have:decide (e.f1≤40)=false:=df_ (by omega)
     simp only [a3,if_false,a4,if_true,this,Bool.and_false,Bool.false_and];exact evnow _
    ·have e4:decide (e.f1≤40)=true:=dt_ (by omega)
     simp only [a3,if_false,a4,e3,e4,Bool.true_and]
     refine Ev.bind (opOk_f _ _ _ _ _ h6) ?_
     cases ho:opB e.f2.f0 e.f2.f1 e.f2.f2 e.f2.f3 e.f2.f4 with
     | false=>simp only [Bool.false_eq_true,if_false,Bool.false_and];exact evnow _
     | true =>
      simp only [if_true,Bool.true_and]
      have hm:=opB_made _ _ _ _ _ ho
      unfold impl_RowWho.f
      have hn:ownI e.f2.f1≠0:=by
       intro hz
       unfold madeB at hm
       rw [hz] at hm
       simp at hm
      rw [if_neg hn]
      simp only [Option.bind_some]
      by_cases a5:e.f2.f0=1
      ·simp only [a5,if_true,ne_eq,not_true,decide_false,Bool.false_or]
       have:(ownI e.f2.f1 - 1==e.f0)=decide (ownI e.f2.f1 - 1=e.f0):=by by_cases hq:ownI e.f2.f1 - 1=e.f0 <;> simp [hq]
       rw [this];exact evnow _
      ·simp only [a5,if_false,ne_eq,not_false_eq_true,decide_true,Bool.true_or];exact evnow _
 ·have:decide (1≤e.f0)=false:=df_ (by omega)
  simp only [a1,if_false,Option.bind_some,Bool.false_eq_true,this,Bool.false_and];exact evnow _
theorem sent_f (e:S44) (h:wfE e):Ev (fun n=>spec_EntryOk.f n e.f0 e.f1 e.f2.f0 e.f2.f1 e.f2.f2 e.f2.f3 e.f2.f4) (entB e):=by
 obtain ⟨h0,h1,h2,h3,h4,h5,h6⟩:=h
 unfold spec_EntryOk.f entB
 rw [in_f,in_f]
 simp only [Option.bind_some]
 cases (decide (1≤e.f0)&&decide (e.f0≤3)) with
 | false=>simp only [Bool.false_eq_true,if_false,Bool.false_and];exact evnow _
 | true =>
  cases (decide (1≤e.f1)&&decide (e.f1≤40)) with
  | false=>simp only [Bool.false_eq_true,if_true,if_false,Bool.true_and,Bool.false_and];exact evnow _
  | true =>
   simp only [if_true,Bool.true_and]
   refine Ev.bind (sop_f _ _ _ _ _ h3 h4 h5 h6) ?_
   cases ho:opB e.f2.f0 e.f2.f1 e.f2.f2 e.f2.f3 e.f2.f4 with
   | false=>simp only [Bool.false_eq_true,if_false,Bool.false_and];exact evnow _
   | true =>
    simp only [if_true,Bool.true_and]
    have hm:=who_made _ (opB_made _ _ _ _ _ ho)
    by_cases a5:e.f2.f0=1
    ·simp only [a5,if_true,ne_eq,not_true,decide_false,Bool.false_or]
     have:(wrap64 (Int.tdiv e.f2.f1 10)==e.f0)=decide (ownI e.f2.f1 - 1=e.f0):=by rw [hm];by_cases hq:wrap64 (Int.tdiv e.f2.f1 10)=e.f0 <;> simp [hq]
     rw [this];exact evnow _
    ·simp only [a5,if_false,ne_eq,not_false_eq_true,decide_true,Bool.true_or];exact evnow _
def goB:List S44→List S44→Bool
 | _,[]=>true
 | pre,e::rest=>entB e&&decide (cntE pre e.f0+1=e.f1)&&goB (pre++[e]) rest
def logB (l:List S44):Bool:=decide (l.length≤40)&&goB [] l
def wfL (l:List S44):Prop:=∀ e∈l,wfE e
theorem log_go:∀ (rest pre:List S44),wfL rest→Ev (fun n=>impl_LogOk.go n pre rest) (goB pre rest)
 | [],_,_=>Ev.congr (f:=fun _=>some true) (fun n=>by unfold impl_LogOk.go;rfl) (evnow _)
 | e::rest,pre,h=>by
  unfold goB
  refine Ev.congr (f:=fun k=>(impl_EntryOk.f k e.f0 e.f1 e.f2.f0 e.f2.f1 e.f2.f2 e.f2.f3 e.f2.f4).bind fun t=>if t=true then (if cntE pre e.f0+1=e.f1 then impl_LogOk.go k (pre++[e]) rest else some false) else some false) (fun n=>by rw [impl_LogOk.go]) ?_
  refine Ev.bind (ent_f e (h e (List.mem_cons_self))) ?_
  cases entB e with
  | false=>simp only [Bool.false_eq_true,if_false,Bool.false_and];exact evnow _
  | true =>
   simp only [if_true,Bool.true_and]
   by_cases hq:cntE pre e.f0+1=e.f1
   ·simp only [hq,if_true,decide_true,Bool.true_and];exact log_go rest _ (fun x hx=>h x (List.mem_cons_of_mem _ hx))
   ·simp only [hq,if_false,decide_false,Bool.false_and];exact evnow _
theorem log_f (l:List S44) (h:wfL l):Ev (fun n=>impl_LogOk.f n l) (logB l):=by
 unfold impl_LogOk.f logB
 by_cases h40:(l.length:Int) > 40
 ·refine ev_pos h40 ?_
  have:decide (l.length≤40)=false:=df_ (by omega)
  rw [this,Bool.false_and];exact evnow _
 ·refine ev_neg h40 ?_
  have:decide (l.length≤40)=true:=dt_ (by omega)
  rw [this,Bool.true_and];exact log_go l [] h
theorem rdE_get (l:List S44) (i:Nat) (h:i < l.length):rd_T44 l i=l[i]:=by
 unfold rd_T44
 rw [List.getD_eq_getElem?_getD,show ((i:Int)).toNat=i from rfl,List.getElem?_eq_getElem h]
 rfl
theorem seq_l0 (l:List S44) (who:Int) (hl:l.length≤281474976710656):∀ (n:Nat) (i:Nat) (c:Int),i+n=l.length→0≤c→c≤i→Ev (fun k=>spec_l12Seq.l0 k l who c i) (c+cntE (l.drop i) who)
 | 0,i,c,h,h0,h1=>by
  refine Ev.step (f:=fun _=>some c) (fun k=>?_) ?_
  ·simp only [spec_l12Seq.l0];rw [if_neg (by omega)]
  ·have:c+cntE (l.drop i) who=c:=by rw [List.drop_eq_nil_of_le (by omega)];unfold cntE;simp
   rw [this];exact evnow _
 | n+1,i,c,h,h0,h1=>by
  have hi:i < l.length:=by omega
  have hd:=List.drop_eq_getElem_cons hi
  have hc:cntE (l.drop i) who=cntE (l.drop (i+1)) who+(if l[i].f0=who then 1 else 0):=by
   rw [hd]
   unfold cntE
   rw [List.countP_cons]
   by_cases hq:l[i].f0=who <;> simp [hq]
  rw [hc]
  by_cases hq:l[i].f0=who
  ·rw [if_pos hq,show c+(cntE (l.drop (i+1)) who+1)=(c+1)+cntE (l.drop (i+1)) who by omega]
   refine Ev.step (fun k=>?_) (seq_l0 l who hl n (i+1) (c+1) (by omega) (by omega) (by omega))
   simp only [spec_l12Seq.l0]
   rw [if_pos (by omega),if_pos (by omega),rdE_get l i hi,if_pos hq,wrapS i (by omega) (by omega),wrapS c (by omega) (by omega)]
   rfl
  ·rw [if_neg hq,Int.add_zero]
   refine Ev.step (fun k=>?_) (seq_l0 l who hl n (i+1) c (by omega) (by omega) (by omega))
   simp only [spec_l12Seq.l0]
   rw [if_pos (by omega),if_pos (by omega),rdE_get l i hi,if_neg hq,wrapS i (by omega) (by omega)]
   rfl
theorem seq_f (l:List S44) (who:Int) (hl:l.length≤281474976710656):Ev (fun k=>spec_l12Seq.f k l who) (cntE l who):=by
 have:=seq_l0 l who hl l.length 0 0 (by omega) (by omega) (by omega)
 rw [Int.zero_add] at this
 exact this
theorem slog_l0 (l:List S44) (h:wfL l) (hl:l.length≤281474976710656):∀ (n:Nat) (i:Nat),i+n=l.length→Ev (fun k=>spec_LogOk.l0 k l i) (goB (l.take i) (l.drop i)&&decide (l.length≤40))
 | 0,i,hn=>by
  rw [List.drop_eq_nil_of_le (by omega)]
  refine Ev.step (f:=fun _=>some (decide ((l.length:Int)≤40))) (fun k=>?_) ?_
  ·simp only [spec_LogOk.l0];rw [if_neg (by omega)]
  ·have:decide ((l.length:Int)≤40)=(goB (l.take i) []&&decide (l.length≤40)):=by unfold goB;simp;omega
   rw [this];exact evnow _
 | n+1,i,hn=>by
  have hi:i < l.length:=by omega
  rw [List.drop_eq_getElem_cons hi]
  unfold goB
  rw [←List.take_succ_eq_append_getElem hi]
  refine Ev.step (f:=fun k=>(spec_EntryOk.f k l[i].f0 l[i].f1 l[i].f2.f0 l[i].f2.f1 l[i].f2.f2 l[i].f2.f3 l[i].f2.f4).bind fun t127=>(if t127=true then ((spec_l12Seq.f k (l.take i) l[i].f0).bind fun t134=>(if l[i].f1=(wrap64 (t134+1)) then (spec_LogOk.l0 k l ((i+1:Nat):Int)) else (some false))) else (some false))) (fun k=>?_) ?_
  ·simp only [spec_LogOk.l0]
   rw [if_pos (by omega),if_pos (by omega),rdE_get l i hi,if_pos (by omega),wrapS i (by omega) (by omega)]
   rfl
  ·refine Ev.bind (sent_f _ (h _ (List.getElem_mem hi))) ?_
   cases entB l[i] with
   | false=>simp only [Bool.false_eq_true,if_false,Bool.false_and];exact evnow _
   | true =>
    simp only [if_true,Bool.true_and]
    refine Ev.bind (seq_f (l.take i) l[i].f0 (by rw [List.length_take];omega)) ?_
    have hcn:=cntE_le (l.take i) l[i].f0
    have hw:wrap64 (cntE (l.take i) l[i].f0+1)=cntE (l.take i) l[i].f0+1:=wrapS _ hcn.1 (by have:=hcn.2;rw [List.length_take] at this;omega)
    rw [hw]
    by_cases hq:cntE (l.take i) l[i].f0+1=l[i].f1
    ·rw [dt_ hq,Bool.true_and]
     refine ev_pos hq.symm ?_
     exact slog_l0 l h hl n (i+1) (by omega)
    ·rw [df_ hq,Bool.false_and,Bool.false_and]
     refine ev_neg (fun e=>hq e.symm) ?_
     exact evnow _
theorem slog_f (l:List S44) (h:wfL l) (hl:l.length≤281474976710656):Ev (fun k=>spec_LogOk.f k l) (logB l):=by
 have:=slog_l0 l h hl l.length 0 (by omega)
 unfold logB
 rw [Bool.and_comm]
 exact this
theorem logB_len {l:List S44} (h:logB l=true):l.length≤40:=by
 unfold logB at h
 simp only [Bool.and_eq_true,decide_eq_true_eq] at h
 exact h.1
def Bytes (b:List Int):Prop:=b.length≤2000∧∀ x∈b,0≤x∧x≤255
def Rd (p:Int) (m:Nat):Prop:=0≤p∧p+m≤1000000
theorem Rd.less {p:Int} {m n:Nat} (h:Rd p m) (hn:n≤m):Rd p n:=⟨h.1,by have:=h.2;omega⟩
theorem wrap_id (x:Int) (h0:-9223372036854775808≤x) (h1:x≤9223372036854775807):wrap64 x=x:=by unfold wrap64;omega
theorem wraps_i64 (n:Int) (h0:0≤n) (h1:n < 2 ^ 62):IntKind.i64.wrap n=n:=by rw [IntKind.wrap_i64];omega
theorem xor_pos (a b:Int) (ha:0≤a) (hb:0≤b) (ha':a < 4611686018427387904) (hb':b < 4611686018427387904):0≤Go.bits .xor .i64 a b:=by
 obtain ⟨m,rfl⟩:∃ m:Nat,a=m:=⟨a.toNat,by omega⟩
 obtain ⟨n,rfl⟩:∃ n:Nat,b=n:=⟨b.toNat,by omega⟩
 have hm:m < 2 ^ 62:=by omega
 have hn:n < 2 ^ 62:=by omega
 have e1:m % 2 ^ 64=m:=Nat.mod_eq_of_lt (by omega)
 have e2:n % 2 ^ 64=n:=Nat.mod_eq_of_lt (by omega)
 have hx:m ^^^ n < 2 ^ 62:=Nat.xor_lt_two_pow hm hn
 have hq:(BitVec.ofNat 64 m ^^^ BitVec.ofNat 64 n).toNat=m ^^^ n:=by rw [BitVec.toNat_xor,BitVec.toNat_ofNat,BitVec.toNat_ofNat,e1,e2]
 have h2:Go.bits .xor .i64 (m:Int) (n:Int)=IntKind.i64.wrap (((BitVec.ofNat 64 m ^^^ BitVec.ofNat 64 n).toNat:Nat):Int):=by simp only [Go.bits,BitVec.ofInt_natCast];rfl
 rw [h2,hq,wraps_i64 _ (by omega) (by omega)]
 omega
theorem rd_byte {b:List Int} (hb:Bytes b) (i:Int):0≤rd b i∧rd b i≤255:=by
 unfold rd
 rw [List.getD_eq_getElem?_getD]
 rcases Nat.lt_or_ge i.toNat b.length with h|h
 ·rw [List.getElem?_eq_getElem h]
  exact hb.2 _ (List.getElem_mem h)
 ·rw [List.getElem?_eq_none h]
  simp
theorem tmod_range (x n:Int) (hx:0≤x) (hn:1≤n):0≤Int.tmod x n∧Int.tmod x n < n:=by
 rw [Int.tmod_eq_emod_of_nonneg hx]
 exact ⟨Int.emod_nonneg _ (by omega),Int.emod_lt_of_pos _ (by omega)⟩
theorem pick_f (b:List Int) (p n:Int) (m:Nat) (hb:Bytes b) (hp:Rd p (m+1)):∃ r:Int,Ev (fun k=>spec_l6Rd_pick.f k b p n) (r,p+1)∧Rd (p+1) m∧0≤r∧(1≤n→r < n)∧(n < 1→r=0):=by
 obtain ⟨h0,h1⟩:=hp
 have hR:Rd (p+1) m:=⟨by omega,by omega⟩
 have w1:wrap64 (p+1)=p+1:=wrap_id _ (by omega) (by omega)
 have w2:wrap64 (p+1 - 1)=p:=by rw [wrap_id (p+1 - 1) (by omega) (by omega)];omega
 unfold spec_l6Rd_pick.f
 rw [w1]
 by_cases hn:n < 1
 ·refine ⟨0,ev_pos hn ?_,hR,Int.le_refl _,fun h=>by omega,fun _=>rfl⟩
  refine Ev.step (f:=fun _=>some (0,p+1)) (fun k=>?_) (evnow _)
  simp only [spec_l6Rd_pick.j0,if_true]
 ·by_cases hl:b.length=0
  ·refine ⟨0,ev_neg hn ?_,hR,Int.le_refl _,fun h=>by omega,fun _=>rfl⟩
   refine Ev.step (f:=fun _=>some (0,p+1)) (fun k=>?_) (evnow _)
   have:((b.length:Int)==0)=true:=by simp [hl]
   simp only [spec_l6Rd_pick.j0,this,if_true]
  ·have hf:((b.length:Int)==0)=false:=beq_eq_false_iff_ne.2 (by omega)
   by_cases hk:p < (b.length:Int)
   ·have hx:=rd_byte hb p
    have hr:=tmod_range (wrap64 (rd b p)) n (by rw [wrap_id (rd b p) (by omega) (by omega)];omega) (by omega)
    refine ⟨Int.tmod (wrap64 (rd b p)) n,ev_neg hn ?_,hR,hr.1,fun _=>hr.2,fun h=>absurd h hn⟩
    refine Ev.step (f:=fun _=>some (Int.tmod (wrap64 (rd b p)) n,p+1)) (fun k=>?_) (evnow _)
    simp only [spec_l6Rd_pick.j0,hf,Bool.false_eq_true,if_false,w2]
    rw [if_pos hk,if_pos h0,if_neg (show ¬ n=0 by omega)]
   ·have hlen:(1:Int)≤b.length:=by omega
    have m1:=tmod_range p b.length h0 hlen
    have e7:wrap64 (p * 7)=p * 7:=wrap_id _ (by omega) (by omega)
    have e73:wrap64 (p * 7+3)=p * 7+3:=wrap_id _ (by omega) (by omega)
    have m2:=tmod_range (p * 7+3) b.length (by omega) hlen
    have x1:=rd_byte hb (Int.tmod p b.length)
    have x2:=rd_byte hb (Int.tmod (p * 7+3) b.length)
    have d1:0≤Int.tdiv p b.length∧Int.tdiv p b.length≤1000000:=by
     rw [Int.tdiv_eq_ediv_of_nonneg h0]
     exact ⟨Int.ediv_nonneg h0 (by omega),Int.le_trans (Int.ediv_le_self _ h0) (by omega)⟩
    obtain ⟨r,hr⟩:∃ r,r=Int.tmod (Go.bits .xor .i64 (wrap64 ((wrap64 ((wrap64 ((wrap64 ((wrap64 (rd b (Int.tmod p (b.length:Int)))) * 131))+(wrap64 ((wrap64 (rd b (Int.tmod (p * 7+3) (b.length:Int)))) * 1117))))+(wrap64 (p * 29))))+(wrap64 ((wrap64 (Int.tdiv p (b.length:Int))) * 53)))) (wrap64 (Int.tdiv (wrap64 ((wrap64 ((wrap64 ((wrap64 ((wrap64 (rd b (Int.tmod p (b.length:Int)))) * 131))+(wrap64 ((wrap64 (rd b (Int.tmod (p * 7+3) (b.length:Int)))) * 1117))))+(wrap64 (p * 29))))+(wrap64 ((wrap64 (Int.tdiv p (b.length:Int))) * 53)))) 64))) n:=⟨_,rfl⟩
    have hrr:0≤r∧r < n:=by
     rw [hr]
     refine tmod_range _ n ?_ (by omega)
     generalize rd b (Int.tmod p (b.length:Int))=u at x1
     generalize rd b (Int.tmod (p * 7+3) (b.length:Int))=v at x2
     generalize Int.tdiv p (b.length:Int)=d at d1
     rw [wrap_id u (by omega) (by omega),wrap_id v (by omega) (by omega),wrap_id d (by omega) (by omega)]
     rw [wrap_id (u * 131) (by omega) (by omega),wrap_id (v * 1117) (by omega) (by omega),wrap_id (p * 29) (by omega) (by omega),wrap_id (d * 53) (by omega) (by omega)]
     rw [wrap_id (u * 131+v * 1117) (by omega) (by omega)]
     rw [wrap_id (u * 131+v * 1117+p * 29) (by omega) (by omega)]
     rw [wrap_id (u * 131+v * 1117+p * 29+d * 53) (by omega) (by omega)]
     have hs:Int.tdiv (u * 131+v * 1117+p * 29+d * 53) 64=(u * 131+v * 1117+p * 29+d * 53) / 64:=Int.tdiv_eq_ediv_of_nonneg (by omega)
     rw [hs,wrap_id _ (by omega) (by omega)]
     exact xor_pos _ _ (by omega) (by omega) (by omega) (by omega)
    refine ⟨r,ev_neg hn ?_,hR,hrr.1,fun _=>hrr.2,fun h=>absurd h hn⟩
    refine Ev.step (f:=fun _=>some (r,p+1)) (fun k=>?_) (evnow _)
    simp only [spec_l6Rd_pick.j0,hf,Bool.false_eq_true,if_false,w2,e7,e73]
    rw [if_neg hk,if_neg (show ¬ (b.length:Int)=0 by omega),if_pos m1.1,if_pos m1.2,if_pos m2.1,if_pos m2.2,if_neg (show ¬ n=0 by omega),hr]
theorem rdR_get (t:List S69) (i:Nat) (h:i < t.length):rd_T69 t i=t[i]:=by
 unfold rd_T69
 rw [List.getD_eq_getElem?_getD,show ((i:Int)).toNat=i from rfl,List.getElem?_eq_getElem h]
 rfl
def atFrom (id:Int):List S69→Nat→Int
 | [],_=>-1
 | r::rest,i=>if r.f0=id then (i:Int) else atFrom id rest (i+1)
def atI (t:List S69) (id:Int):Int:=atFrom id t 0
theorem at_l0 (t:List S69) (id:Int) (hl:t.length≤1099511627776):∀ (n i:Nat),i+n=t.length→Ev (fun k=>spec_l2At.l0 k t id i) (atFrom id (t.drop i) i)
 | 0,i,h=>by
  rw [List.drop_eq_nil_of_le (by omega)]
  refine Ev.step (f:=fun _=>some (-1)) (fun k=>?_) (evnow _)
  simp only [spec_l2At.l0];rw [if_neg (by omega)]
 | n+1,i,h=>by
  have hi:i < t.length:=by omega
  rw [List.drop_eq_getElem_cons hi]
  unfold atFrom
  by_cases hq:t[i].f0=id
  ·rw [if_pos hq]
   refine Ev.step (f:=fun _=>some (i:Int)) (fun k=>?_) (evnow _)
   simp only [spec_l2At.l0]
   rw [if_pos (by omega),if_pos (by omega),rdR_get t i hi,if_pos hq]
  ·rw [if_neg hq]
   refine Ev.step (fun k=>?_) (at_l0 t id hl n (i+1) (by omega))
   simp only [spec_l2At.l0]
   rw [if_pos (by omega),if_pos (by omega),rdR_get t i hi,if_neg hq,wrapS i (by omega) (by omega)]
   rfl
theorem at_f (t:List S69) (id:Int) (hl:t.length≤1099511627776):Ev (fun k=>spec_l2At.f k t id) (atI t id):=at_l0 t id hl t.length 0 (by omega)
theorem atFrom_spec (id:Int):∀ (t:List S69) (i:Nat),(atFrom id t i=-1∧∀ x∈t,x.f0≠id)∨∃ (j:Nat) (h:j < t.length),atFrom id t i=((i+j:Nat):Int)∧t[j].f0=id
 | [],i=>Or.inl ⟨rfl,fun x hx=>by cases hx⟩
 | r::rest,i=>by
  unfold atFrom
  by_cases hq:r.f0=id
  ·rw [if_pos hq]
   exact Or.inr ⟨0,by simp,by simp,hq⟩
  ·rw [if_neg hq]
   rcases atFrom_spec id rest (i+1) with ⟨h1,h2⟩|⟨j,h,h1,h2⟩
   ·refine Or.inl ⟨h1,fun x hx=>?_⟩
    rcases List.mem_cons.1 hx with rfl|hx
    ·exact hq
    ·exact h2 x hx
   ·exact Or.inr ⟨j+1,by simp;omega,by rw [h1];congr 1;omega,by simpa using h2⟩
theorem atI_spec (t:List S69) (id:Int):(atI t id=-1∧∀ x∈t,x.f0≠id)∨∃ (j:Nat) (h:j < t.length),atI t id=(j:Int)∧t[j].f0=id:=by
 rcases atFrom_spec id t 0 with h|⟨j,h,h1,h2⟩
 ·exact Or.inl h
 ·exact Or.inr ⟨j,h,by rw [atI,h1];congr 1;omega,h2⟩
theorem atI_mem {t:List S69} {id:Int} {x:S69} (hx:x∈t) (h:x.f0=id):∃ (j:Nat) (hj:j < t.length),atI t id=(j:Int)∧t[j].f0=id:=by
 rcases atI_spec t id with ⟨_,h2⟩|h2
 ·exact absurd h (h2 x hx)
 ·exact h2
def endFrom (d:Int):List S69→Nat→Nat
 | [],e=>e
 | r::rest,e=>if r.f1 > d then endFrom d rest (e+1) else e
def endI (t:List S69) (i:Nat):Nat:=endFrom (t.getD i z69).f1 (t.drop (i+1)) (i+1)
theorem getD_get (t:List S69) (i:Nat) (h:i < t.length):t.getD i z69=t[i]:=by
 rw [List.getD_eq_getElem?_getD,List.getElem?_eq_getElem h]
 rfl
theorem end_l0 (t:List S69) (a:Nat) (ha:a < t.length) (hl:t.length≤1099511627776):∀ (n i:Nat),i+n=t.length→Ev (fun k=>spec_l2End.l0 k t a i) (endFrom t[a].f1 (t.drop i) i:Int)
 | 0,i,h=>by
  rw [List.drop_eq_nil_of_le (by omega)]
  refine Ev.step (f:=fun _=>some (i:Int)) (fun k=>?_) (evnow _)
  simp only [spec_l2End.l0];rw [if_neg (by omega)]
 | n+1,i,h=>by
  have hi:i < t.length:=by omega
  rw [List.drop_eq_getElem_cons hi]
  unfold endFrom
  by_cases hq:t[i].f1 > t[a].f1
  ·rw [if_pos hq]
   refine Ev.step (fun k=>?_) (end_l0 t a ha hl n (i+1) (by omega))
   simp only [spec_l2End.l0]
   rw [if_pos (by omega),if_pos (by omega),if_pos (by omega),if_pos (by omega),rdR_get t i hi,rdR_get t a ha,if_pos hq,wrapS i (by omega) (by omega)]
   rfl
  ·rw [if_neg hq]
   refine Ev.step (f:=fun _=>some (i:Int)) (fun k=>?_) (evnow _)
   simp only [spec_l2End.l0]
   rw [if_pos (by omega),if_pos (by omega),if_pos (by omega),if_pos (by omega),rdR_get t i hi,rdR_get t a ha,if_neg hq]
theorem end_f (t:List S69) (a:Nat) (ha:a < t.length) (hl:t.length≤1099511627776):Ev (fun k=>spec_l2End.f k t a) (endI t a:Int):=by
 have:=end_l0 t a ha hl (t.length - (a+1)) (a+1) (by omega)
 unfold endI
 rw [getD_get t a ha]
 refine Ev.congr (fun k=>?_) this
 unfold spec_l2End.f
 rw [wrapS a (by omega) (by omega)]
 rfl
theorem endFrom_spec (d:Int):∀ (t:List S69) (e:Nat),e≤endFrom d t e∧endFrom d t e≤e+t.length∧(∀ (j:Nat) (hj:j < t.length),e+j < endFrom d t e→d < t[j].f1)∧(∀ (hj:endFrom d t e - e < t.length),t[endFrom d t e - e].f1≤d)
 | [],e=>⟨Nat.le_refl _,by simp [endFrom],fun j hj=>by simp at hj,fun hj=>by simp at hj⟩
 | r::rest,e=>by
  by_cases hq:r.f1 > d
  ·have he:endFrom d (r::rest) e=endFrom d rest (e+1):=if_pos hq
   obtain ⟨h1,h2,h3,h4⟩:=endFrom_spec d rest (e+1)
   refine ⟨by rw [he];omega,by rw [he];simp;omega,fun j hj hlt=>?_,fun hj=>?_⟩
   ·rw [he] at hlt
    cases j with
    | zero=>exact hq
    | succ j=>exact h3 j (by simpa using hj) (by omega)
   ·have e1:endFrom d (r::rest) e - e=(endFrom d rest (e+1) - (e+1))+1:=by rw [he];omega
    have hj':endFrom d rest (e+1) - (e+1) < rest.length:=by rw [e1] at hj;simpa using hj
    have:=h4 hj'
    simp only [e1,List.getElem_cons_succ]
    exact this
  ·have he:endFrom d (r::rest) e=e:=if_neg hq
   refine ⟨by rw [he];exact Nat.le_refl _,by rw [he];omega,fun j hj hlt=>by rw [he] at hlt;omega,fun hj=>?_⟩
   have e1:endFrom d (r::rest) e - e=0:=by rw [he];omega
   simp only [e1,List.getElem_cons_zero]
   omega
theorem endI_spec (t:List S69) (a:Nat) (ha:a < t.length):a < endI t a∧endI t a≤t.length∧(∀ (j:Nat) (hj:j < t.length),a < j→j < endI t a→t[a].f1 < t[j].f1)∧(∀ (hj:endI t a < t.length),t[endI t a].f1≤t[a].f1):=by
 unfold endI
 rw [getD_get t a ha]
 obtain ⟨h1,h2,h3,h4⟩:=endFrom_spec t[a].f1 (t.drop (a+1)) (a+1)
 rw [List.length_drop] at h2
 refine ⟨by omega,by omega,fun j hj h5 h6=>?_,fun hj=>?_⟩
 ·have:=h3 (j - (a+1)) (by rw [List.length_drop];omega) (by omega)
  rw [List.getElem_drop] at this
  simpa [show a+1+(j - (a+1))=j by omega] using this
 ·have:=h4 (by rw [List.length_drop];omega)
  rw [List.getElem_drop] at this
  simpa [show a+1+(endFrom t[a].f1 (t.drop (a+1)) (a+1) - (a+1))=endFrom t[a].f1 (t.drop (a+1)) (a+1) by omega] using this
def KidOf (t:List S69) (a i:Nat) (x:Int):Prop:=∃ (ha:a < t.length) (j:Nat) (hj:j < t.length),i≤j∧j < endI t a∧t[j].f0=x∧t[j].f1=wrap64 (t[a].f1+1)
theorem kids_l0 (t:List S69) (a:Nat) (ha:a < t.length) (hl:t.length≤1099511627776):∀ (n i:Nat) (acc:List Int),i+n=endI t a→acc.length+n≤1099511627776 →
  ∃ r:List Int,Ev (fun k=>spec_l2Kids.l0 k t acc a i) (acc++r)∧r.length≤n∧∀ x∈r,KidOf t a i x
 | 0,i,acc,h,hacc=>by
  refine ⟨[],?_,by simp,fun x hx=>by cases hx⟩
  rw [List.append_nil]
  refine Ev.step (fun k=>by simp only [spec_l2Kids.l0];rfl) ?_
  refine Ev.bind (end_f t a ha hl) ?_
  refine ev_neg (by omega) ?_
  exact evnow _
 | n+1,i,acc,h,hacc=>by
  obtain ⟨e1,e2,_,_⟩:=endI_spec t a ha
  have hi:i < t.length:=by omega
  by_cases hq:t[i].f1=wrap64 (t[a].f1+1)
  ·obtain ⟨r,hr,hlen,hk⟩:=kids_l0 t a ha hl n (i+1) (acc++[t[i].f0]) (by omega) (by simp;omega)
   refine ⟨t[i].f0::r,?_,by simp;omega,fun x hx=>?_⟩
   ·rw [List.append_assoc] at hr
    refine Ev.step (fun k=>by simp only [spec_l2Kids.l0];rfl) ?_
    refine Ev.bind (end_f t a ha hl) ?_
    refine ev_pos (by omega) (ev_pos (by omega) (ev_pos (by omega) (ev_pos (by omega) (ev_pos (by omega) ?_))))
    rw [rdR_get t i hi,rdR_get t a ha,wrapS i (by omega) (by omega)]
    refine ev_pos hq (ev_pos (by omega) ?_)
    exact hr
   ·rcases List.mem_cons.1 hx with rfl|hx
    ·exact ⟨ha,i,hi,Nat.le_refl _,by omega,rfl,hq⟩
    ·obtain ⟨h1,j,hj,h2,h3,h4,h5⟩:=hk x hx
     exact ⟨h1,j,hj,by omega,h3,h4,h5⟩
  ·obtain ⟨r,hr,hlen,hk⟩:=kids_l0 t a ha hl n (i+1) acc (by omega) (by omega)
   refine ⟨r,?_,by omega,fun x hx=>?_⟩
   ·refine Ev.step (fun k=>by simp only [spec_l2Kids.l0];rfl) ?_
    refine Ev.bind (end_f t a ha hl) ?_
    refine ev_pos (by omega) (ev_pos (by omega) (ev_pos (by omega) (ev_pos (by omega) (ev_pos (by omega) ?_))))
    rw [rdR_get t i hi,rdR_get t a ha,wrapS i (by omega) (by omega)]
    refine ev_neg hq ?_
    exact hr
   ·obtain ⟨h1,j,hj,h2,h3,h4,h5⟩:=hk x hx
    exact ⟨h1,j,hj,by omega,h3,h4,h5⟩
theorem kids_f (t:List S69) (id:Int) (hl:t.length≤1000000):∃ r:List Int,Ev (fun k=>spec_l2Kids.f k t id) r∧r.length≤t.length∧∀ x∈r,∃ a:Nat,atI t id=(a:Int)∧KidOf t a (a+1) x:=by
 unfold spec_l2Kids.f
 simp only [Option.bind_some]
 rcases atI_spec t id with ⟨h1,_⟩|⟨a,ha,h1,_⟩
 ·refine ⟨[],?_,by simp,fun x hx=>by cases hx⟩
  refine Ev.bind (at_f t id (by omega)) ?_
  rw [h1]
  exact ev_pos (by omega) (evnow _)
 ·obtain ⟨e1,e2,_,_⟩:=endI_spec t a ha
  obtain ⟨r,hr,hlen,hk⟩:=kids_l0 t a ha (by omega) (endI t a - (a+1)) (a+1) [] (by omega) (by simp;omega)
  refine ⟨r,?_,by omega,fun x hx=>⟨a,h1,hk x hx⟩⟩
  refine Ev.bind (at_f t id (by omega)) ?_
  rw [h1]
  refine ev_neg (by omega) ?_
  rw [wrapS a (by omega) (by omega)]
  exact hr
def shift (d:Int) (r:S69):S69:=⟨r.f0,wrap64 (r.f1+d),r.f2⟩
theorem put_l0 (t rows:List S69) (d:Int) (p:Nat) (hp:p≤t.length) (hl:t.length≤1000000) (hr:rows.length≤1000000):∀ (n i:Nat) (acc:List S69),i+n=rows.length→acc.length+n≤3000000 →
  Ev (fun k=>spec_l3Put.l0 k t rows d p acc i) (acc++(rows.drop i).map (shift d)++t.drop p)
 | 0,i,acc,h,ha=>by
  rw [List.drop_eq_nil_of_le (show rows.length≤i by omega),List.map_nil,List.append_nil]
  refine Ev.step (fun k=>by simp only [spec_l3Put.l0];rfl) ?_
  refine ev_neg (by omega) (ev_pos (by omega) (ev_pos (by omega) ?_))
  simp only [Option.bind_some]
  refine ev_pos (by rw [List.length_drop];omega) ?_
  exact evnow _
 | n+1,i,acc,h,ha=>by
  have hi:i < rows.length:=by omega
  rw [List.drop_eq_getElem_cons hi,List.map_cons]
  have ih:=put_l0 t rows d p hp hl hr n (i+1) (acc++[shift d rows[i]]) (by omega) (by simp;omega)
  rw [List.append_assoc acc] at ih
  refine Ev.step (fun k=>by simp only [spec_l3Put.l0];rfl) ?_
  refine ev_pos (by omega) (ev_pos (by omega) (ev_pos (by omega) ?_))
  rw [rdR_get rows i hi,wrapS i (by omega) (by omega)]
  exact ih
theorem put_f (t rows:List S69) (u a:Int) (hl:t.length≤1000000) (hr:rows.length≤1000000) (h0:0 < rows.length) (hu:∃ x∈t,x.f0=u) (ha:a > 0→∃ x∈t,x.f0=a) :
  ∃ (y:S69) (p:Nat),y∈t∧y.f0=u∧p≤t.length∧Ev (fun k=>spec_l3Put.f k t rows u a) (t.take p++rows.map (shift (wrap64 (wrap64 (y.f1+1) - rows[0].f1)))++t.drop p):=by
 obtain ⟨x,hx,hxu⟩:=hu
 obtain ⟨j,hj,e1,e2⟩:=atI_mem hx hxu
 have fin:∀ (p:Nat),p≤t.length→Ev (fun k=>spec_l3Put.j0 k t rows (wrap64 (wrap64 (t[j].f1+1) - rows[0].f1)) p) (t.take p++rows.map (shift (wrap64 (wrap64 (t[j].f1+1) - rows[0].f1)))++t.drop p):=fun p hp=>by
  refine Ev.step (fun k=>by simp only [spec_l3Put.j0];rfl) ?_
  simp only [Option.bind_some]
  refine ev_pos (by omega) (ev_pos (by omega) ?_)
  refine ev_pos (by simp;omega) ?_
  simp only [List.nil_append,Int.toNat_natCast]
  have:=put_l0 t rows (wrap64 (wrap64 (t[j].f1+1) - rows[0].f1)) p hp hl hr rows.length 0 (t.take p) (by omega) (by rw [List.length_take];omega)
  simpa using this
 have r0:rd_T69 rows 0=rows[0]:=rdR_get rows 0 h0
 by_cases h:a > 0
 ·obtain ⟨x2,hx2,hxa⟩:=ha h
  obtain ⟨i,hi,e3,e4⟩:=atI_mem hx2 hxa
  obtain ⟨_,e5,_,_⟩:=endI_spec t i hi
  refine ⟨t[j],endI t i,List.getElem_mem hj,e2,e5,?_⟩
  unfold spec_l3Put.f
  refine Ev.bind (at_f t u (by omega)) ?_
  rw [e1]
  refine ev_pos (by omega) (ev_pos (by omega) (ev_pos (by omega) (ev_pos h ?_)))
  refine Ev.bind (at_f t a (by omega)) ?_
  rw [e3]
  refine Ev.bind (end_f t i hi (by omega)) ?_
  rw [rdR_get t j hj,r0]
  exact fin _ e5
 ·refine ⟨t[j],j+1,List.getElem_mem hj,e2,by omega,?_⟩
  unfold spec_l3Put.f
  refine Ev.bind (at_f t u (by omega)) ?_
  rw [e1]
  refine ev_pos (by omega) (ev_pos (by omega) (ev_pos (by omega) (ev_neg h ?_)))
  rw [rdR_get t j hj,r0,wrapS j (by omega) (by omega)]
  exact fin (j+1) (by omega)
theorem under_f (t:List S69) (u id:Int) (k:Nat) (hk:k < t.length) (hi:atI t id=(k:Int)) (hl:t.length≤1000000) :
  Ev (fun n=>spec_l2Under.f n t u id) (decide (0≤atI t u)&&(decide ((k:Int)≤atI t u)&&decide (atI t u≤(endI t k:Int) - 1))):=by
 obtain ⟨e1,e2,_,_⟩:=endI_spec t k hk
 unfold spec_l2Under.f
 refine Ev.bind (at_f t u (by omega)) ?_
 refine Ev.bind (at_f t id (by omega)) ?_
 rw [hi]
 by_cases h:atI t u≥0
 ·refine ev_pos h (ev_pos (by omega) ?_)
  refine Ev.bind (end_f t k hk (by omega)) ?_
  have hw:wrap64 ((endI t k:Int) - 1)=(endI t k:Int) - 1:=by unfold wrap64;omega
  rw [hw,in_f,dt_ (show 0≤atI t u from h),Bool.true_and]
  simp only [Option.bind_some]
  exact evnow _
 ·rw [df_ (show ¬ 0≤atI t u from h),Bool.false_and]
  exact ev_neg h (evnow _)
theorem where_l0 (u:Int) (ks:List Int) (kd id up at_:Int) (s:ByteArray) (hl:ks.length≤1000000):∀ (n i:Nat) (a:Int),i+n=ks.length→(a > 0→a∈ks∧a≠id)→∃ a':Int,Ev (fun k=>spec_l3Where.l0 k u a ks i kd id up at_ s) (u,a',true)∧(a' > 0→a'∈ks∧a'≠id)
 | 0,i,a,h,ha=>⟨a,by
   refine Ev.step (fun k=>by simp only [spec_l3Where.l0];rfl) ?_
   exact ev_neg (by omega) (evnow _),ha⟩
 | n+1,i,a,h,ha=>by
  have hi:i < ks.length:=by omega
  have hrd:rd ks i=ks[i]:=by
   unfold rd
   rw [List.getD_eq_getElem?_getD,show ((i:Int)).toNat=i from rfl,List.getElem?_eq_getElem hi]
   rfl
  by_cases hq:ks[i]=at_∧at_≠id
  ·obtain ⟨a',h1,h2⟩:=where_l0 u ks kd id up at_ s hl n (i+1) at_ (by omega) (fun _=>⟨hq.1 ▸ List.getElem_mem hi,hq.2⟩)
   refine ⟨a',?_,h2⟩
   refine Ev.step (fun k=>by simp only [spec_l3Where.l0];rfl) ?_
   rw [hrd,wrapS i (by omega) (by omega)]
   exact ev_pos (by omega) (ev_pos (by omega) (ev_pos hq.1 (ev_neg hq.2 h1)))
  ·obtain ⟨a',h1,h2⟩:=where_l0 u ks kd id up at_ s hl n (i+1) a (by omega) ha
   refine ⟨a',?_,h2⟩
   refine Ev.step (fun k=>by simp only [spec_l3Where.l0];rfl) ?_
   rw [hrd,wrapS i (by omega) (by omega)]
   refine ev_pos (by omega) (ev_pos (by omega) ?_)
   by_cases h3:ks[i]=at_
   ·refine ev_pos h3 (ev_pos ?_ h1)
    by_cases h4:at_=id
    ·exact h4
    ·exact absurd ⟨h3,h4⟩ hq
   ·exact ev_neg h3 h1
structure Inv (t:List S69) (B:Int):Prop where
 deep:∀ x∈t,0≤x.f1∧x.f1≤B
 root:∀ x∈t,x.f0=3→x.f1=0
 found:∃ x∈t,x.f0=3
 ids:∀ x∈t,I64 x.f0∧x.f2.size≤2000
def Fits (t:List S69) (kd id:Int) (u a:Int):Prop :=
 kd≠2∧(kd≠3→atI t id=-1)∧(kd=3→∃ k:Nat,k < t.length∧atI t id=(k:Int)) ∧
 ∃ (p:Nat) (hp:p < t.length),t[p].f0=u∧(a > 0→∃ (q:Nat) (hq:q < t.length),t[q].f0=a∧∀ k:Nat,kd=3→atI t id=(k:Int)→¬ (k≤q∧q < endI t k)) ∧
  ∀ k:Nat,kd=3→atI t id=(k:Int)→¬ (k≤p∧p < endI t k)
theorem where_f (t:List S69) (B kd id up at_:Int) (s:ByteArray) (hI:Inv t B) (hB:B≤1099511627776) (hid:id≠3) (hl:t.length≤1000000) :
  ∃ (u a:Int) (ok:Bool),Ev (fun n=>spec_l3Where.f n t kd id up at_ s) (u,a,ok)∧(ok=true→Fits t kd id u a):=by
 have none_:∀ f:Nat→Option (Int×Int×Bool),(∀ n,f n=spec_l3Where.j0 n t true kd id up at_ s)→Ev f (0,0,false):=fun f hf =>
  Ev.congr hf (Ev.step (f:=fun _=>some (0,0,false)) (fun n=>by simp only [spec_l3Where.j0,if_true]) (evnow _))
 unfold spec_l3Where.f
 by_cases h2:kd=2
 ·exact ⟨0,0,false,Ev.bind (at_f t id (by omega)) (ev_pos h2 (none_ _ (fun n=>rfl))),fun h=>by cases h⟩
 ·by_cases h3:((decide (atI t id≥0)) != (kd==3))=true
  ·exact ⟨0,0,false,Ev.bind (at_f t id (by omega)) (ev_neg h2 (ev_pos h3 (none_ _ (fun n=>rfl)))),fun h=>by cases h⟩
  ·have h3':decide (atI t id≥0)=(kd==3):=by simpa using h3
   -- the rest: 'up' is there,or it isn't
   have rest:(∀ (p k:Nat),atI t up=(p:Int)→kd=3→atI t id=(k:Int)→¬ (k≤p∧p < endI t k))→∃ (u a:Int),Ev (fun n=>spec_l3Where.j0 n t false kd id up at_ s) (u,a,true)∧Fits t kd id u a:=by
    intro hout
    have c1:kd≠3→atI t id=-1:=fun hk=>by
     have:(kd==3)=false:=beq_eq_false_iff_ne.2 hk
     rw [this] at h3'
     have h4:=of_decide_eq_false h3'
     rcases atI_spec t id with ⟨h5,_⟩|⟨j,hj,h5,_⟩
     ·exact h5
     ·omega
    have c2:kd=3→∃ k:Nat,k < t.length∧atI t id=(k:Int):=fun hk=>by
     have:(kd==3)=true:=beq_iff_eq.2 hk
     rw [this] at h3'
     have h4:=of_decide_eq_true h3'
     rcases atI_spec t id with ⟨h5,_⟩|⟨j,hj,h5,_⟩
     ·omega
     ·exact ⟨j,hj,h5⟩
    rcases atI_spec t up with ⟨h5,_⟩|⟨p,hp,h5,h6⟩
    ·obtain ⟨x,hx,hx3⟩:=hI.found
     obtain ⟨p,hp,rfl⟩:=List.getElem_of_mem hx
     refine ⟨3,0,?_,h2,c1,c2,p,hp,hx3,fun h=>by omega,fun k hk hik hin=>?_⟩
     ·refine Ev.step (fun n=>by simp only [spec_l3Where.j0];rfl) ?_
      refine ev_neg (by decide) ?_
      refine Ev.bind (at_f t up (by omega)) ?_
      exact ev_pos (by omega) (evnow _)
     ·obtain ⟨k',hk',e⟩:=c2 hk
      obtain rfl:k'=k:=by omega
      rcases Nat.eq_or_lt_of_le hin.1 with e6|e6
      ·subst e6
       rcases atI_spec t id with ⟨h7,_⟩|⟨j,hj,h7,h8⟩
       ·omega
       ·obtain rfl:j=k':=by omega
        exact hid (h8.symm.trans hx3)
      ·have:=(endI_spec t k' hk').2.2.1 p hp e6 hin.2
       have d1:=(hI.deep _ (List.getElem_mem hk')).1
       have d2:=hI.root _ hx hx3
       omega
    ·obtain ⟨ks,hks,hkl,hkk⟩:=kids_f t up hl
     obtain ⟨a,ha,hak⟩:=where_l0 up ks kd id up at_ s (by omega) ks.length 0 0 (by omega) (fun h=>by omega)
     refine ⟨up,a,?_,h2,c1,c2,p,hp,h6,fun hpos=>?_,fun k hk hik=>hout p k h5 hk hik⟩
     ·refine Ev.step (fun n=>by simp only [spec_l3Where.j0];rfl) ?_
      refine ev_neg (by decide) ?_
      refine Ev.bind (at_f t up (by omega)) ?_
      refine ev_neg (by omega) ?_
      exact Ev.bind hks ha
     ·obtain ⟨hmem,hne⟩:=hak hpos
      obtain ⟨p',hp',hpl,q,hq,hq1,hq2,hq3,hq4⟩:=hkk a hmem
      obtain rfl:p'=p:=by omega
      refine ⟨q,hq,hq3,fun k hk hik hin=>?_⟩
      obtain ⟨k',hk',e⟩:=c2 hk
      obtain rfl:k'=k:=by omega
      have out:=hout p' k' h5 hk hik
      have hkq:k'≠q:=by
       rintro rfl
       rcases atI_spec t id with ⟨h7,_⟩|⟨j,hj,h7,h8⟩
       ·omega
       ·obtain rfl:j=k':=by omega
        exact hne (hq3.symm.trans h8)
      have dq:=(endI_spec t k' hk').2.2.1 q hq (by omega) hin.2
      have dB:=hI.deep _ (List.getElem_mem hp)
      have hw:wrap64 (t[p'].f1+1)=t[p'].f1+1:=wrap_id _ (by omega) (by omega)
      rw [hw] at hq4
      rcases Nat.lt_or_ge p' k' with h9|h9
      ·have:=(endI_spec t p' hp).2.2.1 k' hk' h9 (by omega)
       omega
      ·exact out ⟨h9,by omega⟩
   by_cases h4:atI t id≥0
   ·have h33:kd=3:=by
     rw [dt_ h4] at h3'
     exact beq_iff_eq.1 h3'.symm
    rcases atI_spec t id with ⟨h5,_⟩|⟨k,hk,h5,h6⟩
    ·omega
    have hu:=under_f t up id k hk h5 hl
    cases hd:(decide (0≤atI t up)&&(decide ((k:Int)≤atI t up)&&decide (atI t up≤(endI t k:Int) - 1))) with
    | true =>
     rw [hd] at hu
     exact ⟨0,0,false,Ev.bind (at_f t id (by omega)) (ev_neg h2 (ev_neg h3 (ev_pos h4 (Ev.bind hu (none_ _ (fun n=>rfl)))))),fun h=>by cases h⟩
    | false =>
     rw [hd] at hu
     obtain ⟨u,a,h7,h8⟩:=rest (fun p k2 hp _ hk2 hin=>by
      obtain rfl:k2=k:=by omega
      have:(decide (0≤atI t up)&&(decide ((k2:Int)≤atI t up)&&decide (atI t up≤(endI t k2:Int) - 1)))=true:=by
       simp only [Bool.and_eq_true,decide_eq_true_eq]
       omega
      rw [this] at hd
      cases hd)
     exact ⟨u,a,true,Ev.bind (at_f t id (by omega)) (ev_neg h2 (ev_neg h3 (ev_pos h4 (Ev.bind hu h7)))),fun _=>h8⟩
   ·obtain ⟨u,a,h7,h8⟩:=rest (fun p k2 hp _ hk2 hin=>by omega)
    exact ⟨u,a,true,Ev.bind (at_f t id (by omega)) (ev_neg h2 (ev_neg h3 (ev_neg h4 h7))),fun _=>h8⟩
theorem mem_rest {t:List S69} {k e j:Nat} (hj:j < t.length) (h:¬ (k≤j∧j < e)) (hk:k≤e):t[j]∈t.take k++t.drop e:=by
 rcases Nat.lt_or_ge j k with h1|h1
 ·exact List.mem_append_left _ (List.mem_take_iff_getElem.2 ⟨j,by omega,rfl⟩)
 ·exact List.mem_append_right _ (List.mem_drop_iff_getElem.2 ⟨j - e,by omega,by congr 1;omega⟩)
theorem rest_mem {t:List S69} {k e:Nat} {x:S69} (h:x∈t.take k++t.drop e):x∈t:=by
 rcases List.mem_append.1 h with h|h
 ·exact List.mem_of_mem_take h
 ·exact List.mem_of_mem_drop h
theorem Inv.more {t:List S69} {B C:Int} (h:Inv t B) (hc:B≤C):Inv t C:=⟨fun x hx=>⟨(h.deep x hx).1,Int.le_trans (h.deep x hx).2 hc⟩,h.root,h.found,h.ids⟩
theorem do_f (t:List S69) (B kd id up at_:Int) (s:ByteArray) (hI:Inv t B) (hB0:0≤B) (hB:B≤1099511627776) (hk:kd=1∨kd=2∨kd=3) (hid:id≠3) (hid64:I64 id) (hl:t.length≤100000) (hs:s.size≤2000) :
  ∃ t':List S69,Ev (fun n=>spec_l3Do.f n t kd id up at_ s) t'∧Inv t' (2 * B+1)∧(t'.length≤t.length+1∧t.length≤t'.length):=by
 have same:∀ y:List S69,y=t→Inv y (2 * B+1)∧(y.length≤t.length+1∧t.length≤y.length):=fun y hy=>by
  subst hy
  exact ⟨hI.more (by omega),by omega⟩
 unfold spec_l3Do.f
 by_cases h2:kd=2
 ·rcases atI_spec t id with ⟨h5,_⟩|⟨k,hk',h5,h6⟩
  ·refine ⟨[]++t,Ev.bind (at_f t id (by omega)) (ev_pos h2 ?_),same _ (by simp)⟩
   simp only [Option.bind_some]
   refine ev_pos (by simp;omega) ?_
   rw [h5]
   exact ev_neg (by omega) (evnow _)
  ·refine ⟨t.set k ⟨t[k].f0,t[k].f1,s⟩,Ev.bind (at_f t id (by omega)) (ev_pos h2 ?_),?_,by rw [List.length_set];omega⟩
   ·simp only [Option.bind_some]
    refine ev_pos (by simp;omega) ?_
    rw [h5]
    simp only [List.nil_append,Int.toNat_natCast,rdR_get t k hk']
    exact ev_pos (by omega) (ev_pos (by omega) (ev_pos (by omega) (evnow _)))
   ·have hm:∀ x∈t.set k ⟨t[k].f0,t[k].f1,s⟩,∃ y∈t,x.f0=y.f0∧x.f1=y.f1∧(x.f2=s∨x.f2=y.f2):=fun x hx=>by
     obtain ⟨i,hi,rfl⟩:=List.getElem_of_mem hx
     rw [List.length_set] at hi
     rw [List.getElem_set]
     split
     ·exact ⟨t[k],List.getElem_mem hk',rfl,rfl,Or.inl rfl⟩
     ·exact ⟨t[i],List.getElem_mem hi,rfl,rfl,Or.inr rfl⟩
    refine ⟨fun x hx=>?_,fun x hx h3=>?_,?_,fun x hx=>?_⟩
    ·obtain ⟨y,hy,_,e,_⟩:=hm x hx
     have:=hI.deep y hy
     rw [e];omega
    ·obtain ⟨y,hy,e0,e,_⟩:=hm x hx
     rw [e]
     exact hI.root y hy (e0 ▸ h3)
    ·obtain ⟨x,hx,h3⟩:=hI.found
     obtain ⟨i,hi,rfl⟩:=List.getElem_of_mem hx
     refine ⟨(t.set k ⟨t[k].f0,t[k].f1,s⟩)[i]'(by rw [List.length_set];exact hi),List.getElem_mem _,?_⟩
     rw [List.getElem_set]
     split
     ·rename_i e;subst e;exact h3
     ·exact h3
    ·obtain ⟨y,hy,e0,_,e2⟩:=hm x hx
     rw [e0]
     refine ⟨(hI.ids y hy).1,?_⟩
     rcases e2 with e2|e2 <;> rw [e2]
     ·exact hs
     ·exact (hI.ids y hy).2
 ·obtain ⟨u,a,ok,hw,hfit⟩:=where_f t B kd id up at_ s hI hB hid (by omega)
  cases ok with
  | false =>
   refine ⟨[]++t,Ev.bind (at_f t id (by omega)) (ev_neg h2 (Ev.bind hw (ev_neg (by simp) ?_))),same _ (by simp)⟩
   simp only [Option.bind_some]
   exact ev_pos (by simp;omega) (evnow _)
  | true =>
   obtain ⟨_,c1,c2,p,hp,hpu,hpa,hpo⟩:=hfit rfl
   by_cases h1:kd=1
   ·obtain ⟨y,q,hy,hyu,hq,hev⟩:=put_f t [⟨id,0,s⟩] u a (by omega) (by simp) (by simp) ⟨t[p],List.getElem_mem hp,hpu⟩ (fun h=>by
     obtain ⟨q,hq,e,_⟩:=hpa h
     exact ⟨t[q],List.getElem_mem hq,e⟩)
    refine ⟨_,Ev.bind (at_f t id (by omega)) (ev_neg h2 (Ev.bind hw (ev_pos rfl (ev_pos h1 (Ev.bind hev (evnow _)))))),?_,by simp;omega⟩
    have dy:=hI.deep y hy
    have hw1:wrap64 (wrap64 (y.f1+1) - 0)=y.f1+1:=by rw [wrap_id (y.f1+1) (by omega) (by omega),wrap_id _ (by omega) (by omega)];omega
    have hmem:∀ x∈t.take q++[(⟨id,0,s⟩:S69)].map (shift (wrap64 (wrap64 (y.f1+1) - ([(⟨id,0,s⟩:S69)])[0].f1)))++t.drop q,x∈t∨(x.f0=id∧x.f1=y.f1+1∧x.f2=s):=fun x hx=>by
     rcases List.mem_append.1 hx with hx|hx
     ·rcases List.mem_append.1 hx with hx|hx
      ·exact Or.inl (List.mem_of_mem_take hx)
      ·right
       simp only [List.map_cons,List.map_nil,List.mem_singleton] at hx
       subst hx
       refine ⟨rfl,?_,rfl⟩
       show wrap64 (0+wrap64 (wrap64 (y.f1+1) - 0))=y.f1+1
       rw [hw1,wrap_id _ (by omega) (by omega)]
       omega
     ·exact Or.inl (List.mem_of_mem_drop hx)
    refine ⟨fun x hx=>?_,fun x hx h3=>?_,?_,fun x hx=>?_⟩
    ·rcases hmem x hx with h|⟨_,h,_⟩
     ·have:=hI.deep x h
      omega
     ·rw [h];omega
    ·rcases hmem x hx with h|⟨h,_⟩
     ·exact hI.root x h h3
     ·exact absurd (h.symm.trans h3) hid
    ·obtain ⟨x,hx,h3⟩:=hI.found
     rw [←List.take_append_drop q t] at hx
     rcases List.mem_append.1 hx with hx|hx
     ·exact ⟨x,List.mem_append_left _ (List.mem_append_left _ hx),h3⟩
     ·exact ⟨x,List.mem_append_right _ hx,h3⟩
    ·rcases hmem x hx with h|⟨h,_,h2⟩
     ·exact hI.ids x h
     ·rw [h,h2];exact ⟨hid64,hs⟩
   ·have h33:kd=3:=by
     rcases hk with h|h|h
     ·exact absurd h h1
     ·exact absurd h h2
     ·exact h
    obtain ⟨k,hk',h5⟩:=c2 h33
    obtain ⟨e1,e2,e3,_⟩:=endI_spec t k hk'
    have hkid:t[k].f0=id:=by
     rcases atI_spec t id with ⟨h7,_⟩|⟨j,hj,h7,h8⟩
     ·omega
     ·obtain rfl:j=k:=by omega
      exact h8
    have hout:=hpo k h33 h5
    obtain ⟨rest,hrest⟩:∃ r,r=t.take k++t.drop (endI t k):=⟨_,rfl⟩
    obtain ⟨rows,hrows⟩:∃ r,r=(t.take (endI t k)).drop k:=⟨_,rfl⟩
    have hrl:rows.length=endI t k - k:=by rw [hrows,List.length_drop,List.length_take];omega
    have hsl:rest.length=k+(t.length - endI t k):=by rw [hrest,List.length_append,List.length_take,List.length_drop];omega
    have hr0:rows[0]'(by omega)=t[k]:=by
     simp only [hrows,List.getElem_drop,List.getElem_take]
     rfl
    have hrm:∀ x∈rows,∃ (j:Nat) (hj:j < t.length),k≤j∧j < endI t k∧x=t[j]:=fun x hx=>by
     rw [hrows] at hx
     obtain ⟨i,hi,rfl⟩:=List.getElem_of_mem hx
     rw [List.length_drop,List.length_take] at hi
     refine ⟨k+i,by omega,by omega,by omega,?_⟩
     rw [List.getElem_drop,List.getElem_take]
    obtain ⟨y,q,hy,hyu,hq,hev⟩:=put_f rest rows u a (by omega) (by omega) (by omega) ⟨t[p],by rw [hrest];exact mem_rest hp hout (by omega),hpu⟩ (fun h=>by
     obtain ⟨q,hq,e,ho⟩:=hpa h
     exact ⟨t[q],by rw [hrest];exact mem_rest hq (ho k h33 h5) (by omega),e⟩)
    refine ⟨rest.take q++rows.map (shift (wrap64 (wrap64 (y.f1+1) - (rows[0]'(by omega)).f1)))++rest.drop q,Ev.bind (at_f t id (by omega)) (ev_neg h2 (Ev.bind hw (ev_pos rfl (ev_neg h1 ?_)))),?_,?_⟩
    rotate_left
    ·have hyt:y∈t:=rest_mem (hrest ▸ hy)
     have dy:=hI.deep y hyt
     have dk:=hI.deep _ (List.getElem_mem hk')
     have hw1:wrap64 (wrap64 (y.f1+1) - (rows[0]'(by omega)).f1)=y.f1+1 - t[k].f1:=by rw [hr0,wrap_id (y.f1+1) (by omega) (by omega),wrap_id _ (by omega) (by omega)]
     rw [hw1]
     have hmem:∀ x∈rest.take q++rows.map (shift (y.f1+1 - t[k].f1))++rest.drop q,x∈t∨(x.f0≠3∧(0≤x.f1∧x.f1≤2 * B+1)∧I64 x.f0∧x.f2.size≤2000):=fun x hx=>by
      rcases List.mem_append.1 hx with hx|hx
      ·rcases List.mem_append.1 hx with hx|hx
       ·exact Or.inl (rest_mem (hrest ▸ List.mem_of_mem_take hx))
       ·right
        obtain ⟨z,hz,rfl⟩:=List.mem_map.1 hx
        obtain ⟨j,hj,hkj,hje,rfl⟩:=hrm z hz
        have dj:=hI.deep _ (List.getElem_mem hj)
        have hge:t[k].f1≤t[j].f1:=by
         rcases Nat.eq_or_lt_of_le hkj with e|e
         ·subst e;exact Int.le_refl _
         ·exact Int.le_of_lt (e3 j hj e hje)
        have hf:(shift (y.f1+1 - t[k].f1) t[j]).f1=t[j].f1+(y.f1+1 - t[k].f1):=wrap_id _ (by omega) (by omega)
        refine ⟨?_,⟨by rw [hf];omega,by rw [hf];omega⟩,hI.ids t[j] (List.getElem_mem hj)⟩
        show t[j].f0≠3
        intro h3
        rcases Nat.eq_or_lt_of_le hkj with e|e
        ·subst e;exact hid (hkid.symm.trans h3)
        ·have:=e3 j hj e hje
         have:=hI.root _ (List.getElem_mem hj) h3
         omega
      ·exact Or.inl (rest_mem (hrest ▸ List.mem_of_mem_drop hx))
     refine ⟨fun x hx=>?_,fun x hx h3=>?_,?_,fun x hx=>?_⟩
     ·rcases hmem x hx with h|⟨_,h,_⟩
      ·have:=hI.deep x h
       omega
      ·exact h
     ·rcases hmem x hx with h|⟨h,_⟩
      ·exact hI.root x h h3
      ·exact absurd h3 h
     ·obtain ⟨x,hx,h3⟩:=hI.found
      obtain ⟨j,hj,rfl⟩:=List.getElem_of_mem hx
      have hj3:¬ (k≤j∧j < endI t k):=by
       rintro ⟨g1,g2⟩
       rcases Nat.eq_or_lt_of_le g1 with e|e
       ·subst e;exact hid (hkid.symm.trans h3)
       ·have:=e3 j hj e g2
        have:=hI.root _ (List.getElem_mem hj) h3
        omega
      have hxr:t[j]∈rest:=by rw [hrest];exact mem_rest hj hj3 (by omega)
      rw [←List.take_append_drop q rest] at hxr
      rcases List.mem_append.1 hxr with hx|hx
      ·exact ⟨_,List.mem_append_left _ (List.mem_append_left _ hx),h3⟩
      ·exact ⟨_,List.mem_append_right _ hx,h3⟩
     ·rcases hmem x hx with h|⟨_,_,h⟩
      ·exact hI.ids x h
      ·exact h
    ·rw [List.length_append,List.length_append,List.length_map,List.length_take,List.length_drop]
     omega
    ·rw [h5]
     refine Ev.bind (end_f t k hk' (by omega)) ?_
     simp only [Option.bind_some,Int.toNat_natCast]
     refine ev_pos (by omega) (ev_pos (by omega) (ev_pos (by omega) ?_))
     refine ev_pos (by rw [List.length_drop,List.length_take];simp;omega) ?_
     refine ev_pos (by omega) ?_
     refine ev_pos (by rw [List.length_take];simp;omega) ?_
     refine ev_pos (by omega) ?_
     refine ev_pos (by rw [List.length_append,List.length_take,List.length_drop];simp;omega) ?_
     simp only [List.nil_append]
     rw [←hrest,←hrows]
     exact Ev.bind hev (evnow _)
theorem of_f (b:List Int) (p:Int) (m:Nat) (l:List ByteArray) (hb:Bytes b) (hp:Rd p (m+1)) (h1:1≤l.length) (h2:l.length≤1000):∃ (s:ByteArray),Ev (fun k=>spec_l6Rd_of.f k b p l) (s,p+1)∧s∈l:=by
 obtain ⟨r,hr,_,h0,hlt,_⟩:=pick_f b p (l.length:Int) m hb hp
 have hlt:=hlt (by omega)
 have hi:r.toNat < l.length:=by omega
 refine ⟨l[r.toNat],?_,List.getElem_mem hi⟩
 unfold spec_l6Rd_of.f
 refine Ev.bind hr ?_
 refine ev_pos h0 (ev_pos hlt ?_)
 have:rdOf ByteArray.empty l r=l[r.toNat]:=by
  unfold rdOf
  rw [List.getD_eq_getElem?_getD,List.getElem?_eq_getElem hi]
  rfl
 rw [this]
 exact evnow _
theorem text_l0_f (b:List Int) (hb:Bytes b):∀ (n:Nat) (s:ByteArray) (p:Int) (m:Nat),s.size+n≤1000→Rd p (m+n+2)→∃ (s':ByteArray) (p':Int),Ev (fun k=>spec_l71Text.l0 k s n b p) (s',p')∧Rd p' m∧s'.size≤1010
 | 0,s,p,m,hs,hp=>by
  obtain ⟨r,hr,hR,_,_,_⟩:=pick_f b p 40 (m+1) hb hp
  by_cases h0:r=0
  ·obtain ⟨u,hu,hm⟩:=of_f b (p+1) m [(⟨#[101]⟩:ByteArray),(⟨#[32]⟩:ByteArray),(⟨#[97,97,97,97]⟩:ByteArray),(⟨#[39]⟩:ByteArray)] hb hR (by simp) (by simp)
   have hz:u.size≤4:=by
    simp only [List.mem_cons,List.not_mem_nil,or_false] at hm
    rcases hm with rfl|rfl|rfl|rfl <;> decide
   refine ⟨s++u,p+1+1,?_,⟨by have:=hR.1;omega,by have:=hR.2;omega⟩,by rw [ByteArray.size_append];omega⟩
   refine Ev.step (fun k=>by simp only [spec_l71Text.l0];rfl) ?_
   refine ev_neg (by omega) (Ev.bind hr (ev_pos h0 (Ev.bind hu (ev_pos (show s.size+u.size≤9223372036854775807 by omega) (evnow _)))))
  ·refine ⟨s,p+1,?_,hR.less (by omega),by omega⟩
   refine Ev.step (fun k=>by simp only [spec_l71Text.l0];rfl) ?_
   exact ev_neg (by omega) (Ev.bind hr (ev_neg h0 (evnow _)))
 | n+1,s,p,m,hs,hp=>by
  obtain ⟨u,hu,hm⟩:=of_f b p (m+n+2) [(⟨#[97]⟩:ByteArray),(⟨#[98]⟩:ByteArray),(⟨#[99]⟩:ByteArray),(⟨#[100]⟩:ByteArray)] hb (hp.less (by omega)) (by simp) (by simp)
  have hz:u.size=1:=by
   simp only [List.mem_cons,List.not_mem_nil,or_false] at hm
   rcases hm with rfl|rfl|rfl|rfl <;> decide
  obtain ⟨s',p',h1,h2,h3⟩:=text_l0_f b hb n (s++u) (p+1) m (by rw [ByteArray.size_append];omega) ⟨by have:=hp.1;omega,by have:=hp.2;omega⟩
  refine ⟨s',p',?_,h2,h3⟩
  refine Ev.step (fun k=>by simp only [spec_l71Text.l0];rfl) ?_
  refine ev_pos (by omega) (Ev.bind hu (ev_pos (show s.size+u.size≤9223372036854775807 by omega) ?_))
  have hw:wrap64 (((n+1:Nat):Int) - 1)=n:=by rw [wrap_id _ (by omega) (by have:=hs;omega)];omega
  rw [hw]
  exact h1
theorem dtext_f (b:List Int) (p:Int) (m:Nat) (hb:Bytes b) (hp:Rd p (m+6)):∃ (s:ByteArray) (p':Int),Ev (fun k=>spec_l71Text.f k b p) (s,p')∧Rd p' m∧s.size≤1010:=by
 obtain ⟨r,hr,hR,h0,hlt,_⟩:=pick_f b p 4 (m+5) hb hp
 have hlt:=hlt (by omega)
 obtain ⟨n,rfl⟩:∃ n:Nat,r=n:=⟨r.toNat,by omega⟩
 obtain ⟨s',p',h1,h2,h3⟩:=text_l0_f b hb n ⟨#[]⟩ (p+1) m (by show 0+n≤1000;omega) (hR.less (by omega))
 refine ⟨s',p',?_,h2,h3⟩
 unfold spec_l71Text.f
 exact Ev.bind hr h1
theorem did_f (b:List Int) (p:Int) (m:Nat) (hb:Bytes b) (hp:Rd p (m+2)):∃ r p':Int,Ev (fun k=>spec_l71Id.f k b p) (r,p')∧Rd p' m∧11≤r∧r≤44:=by
 obtain ⟨x,hx,hR,x0,x1,_⟩:=pick_f b p 3 (m+1) hb hp
 obtain ⟨y,hy,hR2,y0,y1,_⟩:=pick_f b (p+1) 4 m hb hR
 have x1:=x1 (by omega)
 have y1:=y1 (by omega)
 have e:wrap64 (wrap64 (wrap64 (10 * wrap64 (1+x))+1)+y)=10 * (1+x)+1+y:=by
  rw [wrap_id (1+x) (by omega) (by omega),wrap_id (10 * (1+x)) (by omega) (by omega),wrap_id (10 * (1+x)+1) (by omega) (by omega),wrap_id _ (by omega) (by omega)]
 refine ⟨10 * (1+x)+1+y,p+1+1,?_,hR2,by omega,by omega⟩
 unfold spec_l71Id.f
 refine Ev.bind hx (Ev.bind hy ?_)
 rw [e]
 exact evnow _
theorem rowMade_f (w n:Int):∃ r:Int,spec_RowMade.f w n=some r∧(r=0∨11≤r∧r≤36):=by
 unfold spec_RowMade.f
 simp only [in_f,Option.bind_some]
 cases h1:(decide (1≤w)&&decide (w≤3)) with
 | false=>exact ⟨0,by simp,Or.inl rfl⟩
 | true =>
  cases h2:(decide (1≤n)&&decide (n≤6)) with
  | false=>exact ⟨0,by simp,Or.inl rfl⟩
  | true =>
   simp only [Bool.and_eq_true,decide_eq_true_eq] at h1 h2
   refine ⟨10 * w+n,?_,Or.inr ⟨by omega,by omega⟩⟩
   simp only [if_true]
   rw [wrap_id (10 * w) (by omega) (by omega),wrap_id _ (by omega) (by omega)]
def OpD (k i u a:Int) (s:ByteArray):Prop:=(k=1∨k=2∨k=3)∧i≠3∧I64 i∧I64 u∧I64 a∧s.size≤2000
theorem i64_small {x:Int} (h0:-1000≤x) (h1:x≤1000):I64 x:=⟨by omega,by omega⟩
theorem made_ne {i:Int} (h:madeB i=true):i≠3:=by
 rintro rfl
 exact absurd h (by decide)
theorem op_j4 (b:List Int) (hb:Bytes b) (w md id up at_:Int) (s:ByteArray) (f:Bool) (p:Int) (m:Nat) (hi:I64 id) (hu:I64 up) (ha:I64 at_) (hs:s.size≤2000) (hp:Rd p (m+3)) :
  ∃ (k i u a:Int) (s':ByteArray) (p':Int),Ev (fun n=>spec_l72Op.j4 n w md id up at_ s f b p) (k,i,u,a,s',p')∧OpD k i u a s'∧Rd p' m:=by
 cases f with
 | true =>
  obtain ⟨r,hr,hrr⟩:=rowMade_f w (wrap64 (md+1))
  refine ⟨1,r,up,at_,s,p,?_,⟨Or.inl rfl,by omega,i64_small (by omega) (by omega),hu,ha,hs⟩,hp.less (by omega)⟩
  refine Ev.step (fun n=>by simp only [spec_l72Op.j4];rfl) ?_
  refine ev_pos (by simp) ?_
  rw [hr]
  simp only [Option.bind_some]
  exact evnow _
 | false =>
  cases hm:madeB id with
  | true =>
   obtain ⟨r,hr,hR,_,_,_⟩:=pick_f b p 3 (m+2) hb hp
   by_cases h0:r=0
   ·refine ⟨2,id,0,0,s,p+1,?_,⟨Or.inr (Or.inl rfl),made_ne hm,hi,i64_small (by omega) (by omega),i64_small (by omega) (by omega),hs⟩,hR.less (by omega)⟩
    refine Ev.step (fun n=>by simp only [spec_l72Op.j4];rfl) ?_
    refine ev_neg (by decide) ?_
    rw [made_f id hi,hm]
    simp only [Option.bind_some]
    exact ev_pos (by simp) (Ev.bind hr (ev_pos h0 (evnow _)))
   ·refine ⟨3,id,up,at_,⟨#[]⟩,p+1,?_,⟨Or.inr (Or.inr rfl),made_ne hm,hi,hu,ha,by decide⟩,hR.less (by omega)⟩
    refine Ev.step (fun n=>by simp only [spec_l72Op.j4];rfl) ?_
    refine ev_neg (by decide) ?_
    rw [made_f id hi,hm]
    simp only [Option.bind_some]
    exact ev_pos (by simp) (Ev.bind hr (ev_neg h0 (evnow _)))
  | false =>
   obtain ⟨x,p1,hx,hR1,x0,x1⟩:=did_f b p (m+1) hb hp
   obtain ⟨r,hr,hR,_,_,_⟩:=pick_f b p1 3 m hb hR1
   by_cases h0:r=0
   ·refine ⟨2,x,0,0,s,p1+1,?_,⟨Or.inr (Or.inl rfl),by omega,i64_small (by omega) (by omega),i64_small (by omega) (by omega),i64_small (by omega) (by omega),hs⟩,hR⟩
    refine Ev.step (fun n=>by simp only [spec_l72Op.j4];rfl) ?_
    refine ev_neg (by decide) ?_
    rw [made_f id hi,hm]
    simp only [Option.bind_some]
    exact ev_neg (by decide) (Ev.bind hx (Ev.bind hr (ev_pos h0 (evnow _))))
   ·refine ⟨3,x,up,at_,⟨#[]⟩,p1+1,?_,⟨Or.inr (Or.inr rfl),by omega,i64_small (by omega) (by omega),hu,ha,by decide⟩,hR⟩
    refine Ev.step (fun n=>by simp only [spec_l72Op.j4];rfl) ?_
    refine ev_neg (by decide) ?_
    rw [made_f id hi,hm]
    simp only [Option.bind_some]
    exact ev_neg (by decide) (Ev.bind hx (Ev.bind hr (ev_neg h0 (evnow _))))
theorem op_j3 (b:List Int) (hb:Bytes b) (w md id up at_:Int) (s:ByteArray) (p:Int) (m:Nat) (hi:I64 id) (hu:I64 up) (ha:I64 at_) (hs:s.size≤2000) (hp:Rd p (m+4)) :
  ∃ (k i u a:Int) (s':ByteArray) (p':Int),Ev (fun n=>spec_l72Op.j3 n w md id up at_ s b p) (k,i,u,a,s',p')∧OpD k i u a s'∧Rd p' m:=by
 by_cases h6:md < 6
 ·obtain ⟨r,hr,hR,_,_,_⟩:=pick_f b p 3 (m+3) hb hp
  by_cases h0:r=0
  ·obtain ⟨k,i,u,a,s',p',h1,h2,h3⟩:=op_j4 b hb w md id up at_ s true (p+1) m hi hu ha hs hR
   refine ⟨k,i,u,a,s',p',?_,h2,h3⟩
   refine Ev.step (fun n=>by simp only [spec_l72Op.j3];rfl) ?_
   exact ev_pos h6 (Ev.bind hr (ev_pos h0 h1))
  ·obtain ⟨k,i,u,a,s',p',h1,h2,h3⟩:=op_j4 b hb w md id up at_ s (!(madeB id)) (p+1) m hi hu ha hs hR
   refine ⟨k,i,u,a,s',p',?_,h2,h3⟩
   refine Ev.step (fun n=>by simp only [spec_l72Op.j3];rfl) ?_
   rw [made_f id hi]
   simp only [Option.bind_some]
   exact ev_pos h6 (Ev.bind hr (ev_neg h0 h1))
 ·obtain ⟨k,i,u,a,s',p',h1,h2,h3⟩:=op_j4 b hb w md id up at_ s false p m hi hu ha hs (hp.less (by omega))
  refine ⟨k,i,u,a,s',p',?_,h2,h3⟩
  refine Ev.step (fun n=>by simp only [spec_l72Op.j3];rfl) ?_
  exact ev_neg h6 h1
theorem op_j2 (b:List Int) (hb:Bytes b) (w md id up at_:Int) (s:ByteArray) (p:Int) (m:Nat) (hi:I64 id) (hu:I64 up) (ha:I64 at_) (hs:s.size≤2000) (hp:Rd p (m+7)) :
  ∃ (k i u a:Int) (s':ByteArray) (p':Int),Ev (fun n=>spec_l72Op.j2 n w md id up at_ s b p) (k,i,u,a,s',p')∧OpD k i u a s'∧Rd p' m:=by
 obtain ⟨r,hr,hR,_,_,_⟩:=pick_f b p 6 (m+6) hb hp
 by_cases h0:r=0
 ·obtain ⟨x,p1,hx,hR1,x0,x1⟩:=did_f b (p+1) (m+4) hb hR
  obtain ⟨k,i,u,a,s',p',h1,h2,h3⟩:=op_j3 b hb w md id x at_ s p1 m hi (i64_small (by omega) (by omega)) ha hs hR1
  refine ⟨k,i,u,a,s',p',?_,h2,h3⟩
  refine Ev.step (fun n=>by simp only [spec_l72Op.j2];rfl) ?_
  exact Ev.bind hr (ev_pos h0 (Ev.bind hx h1))
 ·obtain ⟨k,i,u,a,s',p',h1,h2,h3⟩:=op_j3 b hb w md id up at_ s (p+1) m hi hu ha hs (hR.less (by omega))
  refine ⟨k,i,u,a,s',p',?_,h2,h3⟩
  refine Ev.step (fun n=>by simp only [spec_l72Op.j2];rfl) ?_
  exact Ev.bind hr (ev_neg h0 h1)
theorem op_j1 (b:List Int) (hb:Bytes b) (w md id up at_:Int) (p:Int) (m:Nat) (hi:I64 id) (hu:I64 up) (ha:I64 at_) (hp:Rd p (m+13)) :
  ∃ (k i u a:Int) (s':ByteArray) (p':Int),Ev (fun n=>spec_l72Op.j1 n w md id up at_ b p) (k,i,u,a,s',p')∧OpD k i u a s'∧Rd p' m:=by
 obtain ⟨s,p1,hx,hR1,hs⟩:=dtext_f b p (m+7) hb hp
 have ht:=text_f s (by omega)
 cases hB:textB s with
 | true =>
  rw [hB] at ht
  obtain ⟨k,i,u,a,s',p',h1,h2,h3⟩:=op_j2 b hb w md id up at_ s p1 m hi hu ha (by omega) hR1
  refine ⟨k,i,u,a,s',p',?_,h2,h3⟩
  refine Ev.step (fun n=>by simp only [spec_l72Op.j1];rfl) ?_
  exact Ev.bind hx (Ev.bind ht (ev_pos rfl h1))
 | false =>
  rw [hB] at ht
  obtain ⟨k,i,u,a,s',p',h1,h2,h3⟩:=op_j2 b hb w md id up at_ ⟨#[97]⟩ p1 m hi hu ha (by decide) hR1
  refine ⟨k,i,u,a,s',p',?_,h2,h3⟩
  refine Ev.step (fun n=>by simp only [spec_l72Op.j1];rfl) ?_
  exact Ev.bind hx (Ev.bind ht (ev_neg (by decide) h1))
theorem op_j0 (b:List Int) (hb:Bytes b) (w md id up at_:Int) (ks:List Int) (f:Bool) (p:Int) (m:Nat) (hi:I64 id) (hu:I64 up) (ha:I64 at_) (hk:∀ x∈ks,I64 x) (hk0:f=true→0 < ks.length) (hp:Rd p (m+14)) :
  ∃ (k i u a:Int) (s':ByteArray) (p':Int),Ev (fun n=>spec_l72Op.j0 n w md id up ks at_ f b p) (k,i,u,a,s',p')∧OpD k i u a s'∧Rd p' m:=by
 cases f with
 | true =>
  have h0:=hk0 rfl
  obtain ⟨r,hr,hR,r0,r1,_⟩:=pick_f b p (ks.length:Int) (m+13) hb hp
  have r1:=r1 (by omega)
  have hi':r.toNat < ks.length:=by omega
  have hrd:rd ks r=ks[r.toNat]:=by
   unfold rd
   rw [List.getD_eq_getElem?_getD,List.getElem?_eq_getElem hi']
   rfl
  obtain ⟨k,i,u,a,s',p',h1,h2,h3⟩:=op_j1 b hb w md id up (ks[r.toNat]) (p+1) m hi hu (hk _ (List.getElem_mem hi')) hR
  refine ⟨k,i,u,a,s',p',?_,h2,h3⟩
  refine Ev.step (fun n=>by simp only [spec_l72Op.j0];rfl) ?_
  refine ev_pos (by simp) (Ev.bind hr (ev_pos r0 (ev_pos r1 ?_)))
  rw [hrd]
  exact h1
 | false =>
  obtain ⟨k,i,u,a,s',p',h1,h2,h3⟩:=op_j1 b hb w md id up at_ p m hi hu ha (hp.less (by omega))
  refine ⟨k,i,u,a,s',p',?_,h2,h3⟩
  refine Ev.step (fun n=>by simp only [spec_l72Op.j0];rfl) ?_
  exact ev_neg (by decide) h1
theorem op72_f (b:List Int) (hb:Bytes b) (t:List S69) (B w md p:Int) (m:Nat) (hI:Inv t B) (hl:t.length≤1000000) (hp:Rd p (m+17)) :
  ∃ (k i u a:Int) (s':ByteArray) (p':Int),Ev (fun n=>spec_l72Op.f n b p t w md) (k,i,u,a,s',p')∧OpD k i u a s'∧Rd p' m:=by
 obtain ⟨x,hx,_⟩:=hI.found
 have h0:0 < t.length:=List.length_pos_of_mem hx
 obtain ⟨r,hr,hR,r0,r1,_⟩:=pick_f b p (t.length:Int) (m+16) hb hp
 have r1:=r1 (by omega)
 obtain ⟨q,hq,hQ,q0,q1,_⟩:=pick_f b (p+1) (t.length:Int) (m+15) hb hR
 have q1:=q1 (by omega)
 obtain ⟨rn,rfl⟩:∃ n:Nat,r=n:=⟨r.toNat,by omega⟩
 obtain ⟨qn,rfl⟩:∃ n:Nat,q=n:=⟨q.toNat,by omega⟩
 have hrn:rn < t.length:=by omega
 have hqn:qn < t.length:=by omega
 have ir:=(hI.ids _ (List.getElem_mem hrn)).1
 have iq:=(hI.ids _ (List.getElem_mem hqn)).1
 obtain ⟨ks,hks,hkl,hkk⟩:=kids_f t t[qn].f0 hl
 have hk64:∀ x∈ks,I64 x:=fun x hx=>by
  obtain ⟨_,_,_,j,hj,_,_,e,_⟩:=hkk x hx
  rw [←e]
  exact (hI.ids _ (List.getElem_mem hj)).1
 by_cases hz:(ks.length:Int) > 0
 ·obtain ⟨z,hz',hZ,_,_,_⟩:=pick_f b (p+1+1) 2 (m+14) hb hQ
  obtain ⟨k,i,u,a,s',p',h1,h2,h3⟩:=op_j0 b hb w md t[rn].f0 t[qn].f0 0 ks (z==0) (p+1+1+1) m ir iq (i64_small (by omega) (by omega)) hk64 (fun _=>by omega) hZ
  refine ⟨k,i,u,a,s',p',?_,h2,h3⟩
  unfold spec_l72Op.f
  refine Ev.bind hr (ev_pos r0 (ev_pos r1 (Ev.bind hq (ev_pos q0 (ev_pos q1 ?_)))))
  simp only [rdR_get t rn hrn,rdR_get t qn hqn]
  exact Ev.bind hks (ev_pos hz (Ev.bind hz' h1))
 ·obtain ⟨k,i,u,a,s',p',h1,h2,h3⟩:=op_j0 b hb w md t[rn].f0 t[qn].f0 0 ks false (p+1+1) m ir iq (i64_small (by omega) (by omega)) hk64 (fun h=>by cases h) (hQ.less (by omega))
  refine ⟨k,i,u,a,s',p',?_,h2,h3⟩
  unfold spec_l72Op.f
  refine Ev.bind hr (ev_pos r0 (ev_pos r1 (Ev.bind hq (ev_pos q0 (ev_pos q1 ?_)))))
  simp only [rdR_get t rn hrn,rdR_get t qn hqn]
  exact Ev.bind hks (ev_neg hz h1)
theorem wrap_I64 (x:Int):I64 (wrap64 x):=by unfold wrap64;exact ⟨by omega,by omega⟩
def OpX (k i u a:Int) (s:ByteArray):Prop:=I64 k∧I64 i∧I64 u∧I64 a∧s.size≤2000
theorem opx_j1 (b:List Int) (hb:Bytes b) (k i u a p:Int) (s:ByteArray) (m:Nat) (h:OpX k i u a s) (hp:Rd p (m+2)) :
  ∃ (k' i' u' a':Int) (s':ByteArray) (p':Int),Ev (fun n=>spec_l71Op.j1 n b p k i u a s) (k',i',u',a',s',p')∧OpX k' i' u' a' s'∧Rd p' m:=by
 obtain ⟨h1,h2,h3,h4,h5⟩:=h
 obtain ⟨r,hr,hR,r0,r1,_⟩:=pick_f b p 30 (m+1) hb hp
 obtain ⟨x,hx,hX,x0,x1,_⟩:=pick_f b (p+1) 5 m hb hR
 obtain ⟨y,hy,hY,y0,y1,_⟩:=pick_f b (p+1) 50 m hb hR
 have x1:=x1 (by omega)
 have y1:=y1 (by omega)
 have ix:I64 x:=i64_small (by omega) (by omega)
 have iy:I64 y:=i64_small (by omega) (by omega)
 by_cases e0:r=0
 ·refine ⟨x,i,u,a,s,p+1+1,?_,⟨ix,h2,h3,h4,h5⟩,hX⟩
  refine Ev.step (fun n=>by simp only [spec_l71Op.j1];rfl) ?_
  exact Ev.bind hr (ev_pos e0 (Ev.bind hx (evnow _)))
 ·by_cases e1:r=1
  ·refine ⟨k,y,u,a,s,p+1+1,?_,⟨h1,iy,h3,h4,h5⟩,hX⟩
   refine Ev.step (fun n=>by simp only [spec_l71Op.j1];rfl) ?_
   exact Ev.bind hr (ev_neg e0 (ev_pos e1 (Ev.bind hy (evnow _))))
  ·by_cases e2:r=2
   ·refine ⟨k,i,y,a,s,p+1+1,?_,⟨h1,h2,iy,h4,h5⟩,hX⟩
    refine Ev.step (fun n=>by simp only [spec_l71Op.j1];rfl) ?_
    exact Ev.bind hr (ev_neg e0 (ev_neg e1 (ev_pos e2 (Ev.bind hy (evnow _)))))
   ·by_cases e3:r=3
    ·refine ⟨k,i,u,y,s,p+1+1,?_,⟨h1,h2,h3,iy,h5⟩,hX⟩
     refine Ev.step (fun n=>by simp only [spec_l71Op.j1];rfl) ?_
     exact Ev.bind hr (ev_neg e0 (ev_neg e1 (ev_neg e2 (ev_pos e3 (Ev.bind hy (evnow _))))))
    ·refine ⟨k,i,u,a,s,p+1,?_,⟨h1,h2,h3,h4,h5⟩,hR.less (by omega)⟩
     refine Ev.step (fun n=>by simp only [spec_l71Op.j1];rfl) ?_
     exact Ev.bind hr (ev_neg e0 (ev_neg e1 (ev_neg e2 (ev_neg e3 (evnow _)))))
theorem opx_j0 (b:List Int) (hb:Bytes b) (up at_ w:Int) (f:Bool) (k i u a p:Int) (s:ByteArray) (m:Nat) (h:OpX k i u a s) (hu:I64 up) (ha:I64 at_) (hp:Rd p (m+2)) :
  ∃ (k' i' u' a':Int) (s':ByteArray) (p':Int),Ev (fun n=>spec_l71Op.j0 n up at_ w f b p k i u a s) (k',i',u',a',s',p')∧OpX k' i' u' a' s'∧Rd p' m:=by
 obtain ⟨h1,h2,h3,h4,h5⟩:=h
 have j1:I64 1:=i64_small (by omega) (by omega)
 have j3:I64 3:=i64_small (by omega) (by omega)
 cases f with
 | true =>
  obtain ⟨k',i',u',a',s',p',g1,g2,g3⟩:=opx_j1 b hb 1 i up at_ p s m ⟨j1,h2,hu,ha,h5⟩ hp
  refine ⟨k',i',u',a',s',p',?_,g2,g3⟩
  refine Ev.step (fun n=>by simp only [spec_l71Op.j0];rfl) ?_
  exact ev_pos (by simp) g1
 | false =>
  obtain ⟨k',i',u',a',s',p',g1,g2,g3⟩:=opx_j1 b hb 3 i up at_ p ⟨#[]⟩ m ⟨j3,h2,hu,ha,by decide⟩ hp
  by_cases w2:w=2
  ·refine ⟨k',i',u',a',s',p',?_,g2,g3⟩
   refine Ev.step (fun n=>by simp only [spec_l71Op.j0];rfl) ?_
   exact ev_neg (by decide) (ev_pos w2 g1)
  ·by_cases w3:w=3
   ·refine ⟨k',i',u',a',s',p',?_,g2,g3⟩
    refine Ev.step (fun n=>by simp only [spec_l71Op.j0];rfl) ?_
    exact ev_neg (by decide) (ev_neg w2 (ev_pos w3 g1))
   ·obtain ⟨k',i',u',a',s',p',g1,g2,g3⟩:=opx_j1 b hb k i u a p s m ⟨h1,h2,h3,h4,h5⟩ hp
    refine ⟨k',i',u',a',s',p',?_,g2,g3⟩
    refine Ev.step (fun n=>by simp only [spec_l71Op.j0];rfl) ?_
    exact ev_neg (by decide) (ev_neg w2 (ev_neg w3 g1))
theorem rd_mem (l:List Int) (r:Int) (h0:0≤r) (h1:r < l.length):rd l r∈l:=by
 have hi:r.toNat < l.length:=by omega
 unfold rd
 rw [List.getD_eq_getElem?_getD,List.getElem?_eq_getElem hi]
 exact List.getElem_mem hi
theorem op71_f (b:List Int) (hb:Bytes b) (p:Int) (m:Nat) (hp:Rd p (m+17)) :
  ∃ (k i u a:Int) (s:ByteArray) (p':Int),Ev (fun n=>spec_l71Op.f n b p) (k,i,u,a,s,p')∧OpX k i u a s∧Rd p' m:=by
 obtain ⟨i,p1,hi,R1,i0,i1⟩:=did_f b p (m+15) hb hp
 obtain ⟨s,p2,hs,R2,s0⟩:=dtext_f b p1 (m+9) hb R1
 obtain ⟨u,p3,hu,R3,u0,u1⟩:=did_f b p2 (m+7) hb R2
 obtain ⟨x,hx,R4,x0,x1,_⟩:=pick_f b p3 5 (m+6) hb R3
 have x1:=x1 (by omega)
 obtain ⟨v,p5,hv,R5,v0,v1⟩:=did_f b (p3+1) (m+4) hb R4
 obtain ⟨y,hy,R6,y0,y1,_⟩:=pick_f b p5 2 (m+3) hb R5
 have y1:=y1 (by omega)
 obtain ⟨z,hz,R7,z0,z1,_⟩:=pick_f b (p5+1) 5 (m+2) hb R6
 have iu:I64 (rd ([1,1,u,2,3]:List Int) x):=by
  have:=rd_mem ([1,1,u,2,3]:List Int) x x0 (by simpa using x1)
  simp only [List.mem_cons,List.not_mem_nil,or_false] at this
  exact i64_small (by omega) (by omega)
 have ia:I64 (rd ([0,v]:List Int) y):=by
  have:=rd_mem ([0,v]:List Int) y y0 (by simpa using y1)
  simp only [List.mem_cons,List.not_mem_nil,or_false] at this
  exact i64_small (by omega) (by omega)
 have hX:OpX 2 i 0 0 s:=⟨i64_small (by omega) (by omega),i64_small (by omega) (by omega),i64_small (by omega) (by omega),i64_small (by omega) (by omega),by omega⟩
 unfold spec_l71Op.f
 by_cases e0:z=0
 ·obtain ⟨k',i',u',a',s',p',g1,g2,g3⟩:=opx_j0 b hb _ _ z (z==0) 2 i 0 0 (p5+1+1) s m hX iu ia R7
  refine ⟨k',i',u',a',s',p',?_,g2,g3⟩
  refine Ev.bind hi (Ev.bind hs (Ev.bind hu ?_))
  simp only [Option.bind_some]
  refine Ev.bind hx (ev_pos x0 (ev_pos (by simpa using x1) (Ev.bind hv ?_)))
  refine Ev.bind hy (ev_pos y0 (ev_pos (by simpa using y1) (Ev.bind hz (ev_pos e0 g1))))
 ·obtain ⟨k',i',u',a',s',p',g1,g2,g3⟩:=opx_j0 b hb _ _ z (z==1) 2 i 0 0 (p5+1+1) s m hX iu ia R7
  refine ⟨k',i',u',a',s',p',?_,g2,g3⟩
  refine Ev.bind hi (Ev.bind hs (Ev.bind hu ?_))
  simp only [Option.bind_some]
  refine Ev.bind hx (ev_pos x0 (ev_pos (by simpa using x1) (Ev.bind hv ?_)))
  refine Ev.bind hy (ev_pos y0 (ev_pos (by simpa using y1) (Ev.bind hz (ev_neg e0 g1))))
theorem wfL_snoc {l:List S44} (h:wfL l) {e:S44} (he:wfE e):wfL (l++[e]):=by
 intro x hx
 rcases List.mem_append.1 hx with hx|hx
 ·exact h x hx
 ·rw [List.mem_singleton.1 hx];exact he
theorem log_end (b:List Int) (hb:Bytes b) (l:List S44) (t:List S69) (md:List Int) (p:Int) (m:Nat) (hw:wfL l) (hl:l.length≤20) (hp:Rd p (m+20)) :
  ∃ (l':List S44) (p':Int),Ev (fun k=>spec_l72Log.l0 k l t md 0 b p) (l',p')∧wfL l'∧l'.length≤21∧Rd p' m:=by
 obtain ⟨r,hr,hR,r0,r1,_⟩:=pick_f b p 24 (m+19) hb hp
 by_cases e0:r=0
 ·obtain ⟨x,hx,hX,x0,x1,_⟩:=pick_f b (p+1) 3 (m+18) hb hR
  obtain ⟨y,hy,hY,y0,y1,_⟩:=pick_f b (p+1+1) 4 (m+17) hb hX
  obtain ⟨k,i,u,a,s,p',h1,⟨g1,g2,g3,g4,g5⟩,h3⟩:=op71_f b hb (p+1+1+1) m hY
  refine ⟨l++[⟨wrap64 (1+x),wrap64 (1+y),⟨k,i,u,a,s⟩⟩],p',?_,wfL_snoc hw ⟨wrap_I64 _,wrap_I64 _,g1,g2,g3,g4,by show s.size≤_;omega⟩,by simp;omega,h3⟩
  refine Ev.step (fun n=>by simp only [spec_l72Log.l0];rfl) ?_
  exact ev_neg (by omega) (Ev.bind hr (ev_pos e0 (Ev.bind hx (Ev.bind hy (Ev.bind h1 (ev_pos (by omega) (evnow _)))))))
 ·by_cases e1:r=1
  ·by_cases hz:(l.length:Int) > 0
   ·obtain ⟨x,hx,hX,x0,x1,_⟩:=pick_f b (p+1) (l.length:Int) (m+18) hb hR
    obtain ⟨y,hy,hY,y0,y1,_⟩:=pick_f b (p+1+1) 4 (m+17) hb hX
    have x1:=x1 (by omega)
    have y1:=y1 (by omega)
    obtain ⟨j,rfl⟩:∃ n:Nat,x=n:=⟨x.toNat,by omega⟩
    have hj:j < l.length:=by omega
    have hwj:=hw _ (List.getElem_mem hj)
    refine ⟨l.set j ⟨l[j].f0,y,⟨l[j].f2.f0,l[j].f2.f1,l[j].f2.f2,l[j].f2.f3,l[j].f2.f4⟩⟩,p+1+1+1,?_,?_,by rw [List.length_set];omega,hY.less (by omega)⟩
    ·refine Ev.step (fun n=>by simp only [spec_l72Log.l0];rfl) ?_
     refine ev_neg (by omega) (Ev.bind hr (ev_neg e0 (ev_pos e1 (ev_pos hz (Ev.bind hx (Ev.bind hy (ev_pos x0 (ev_pos x1 ?_))))))))
     simp only [rdE_get l j hj,Int.toNat_natCast]
     exact evnow _
    ·intro e he
     rcases List.mem_or_eq_of_mem_set he with he|rfl
     ·exact hw e he
     ·obtain ⟨q0,q1,q2,q3,q4,q5,q6⟩:=hwj
      have iy:I64 y:=i64_small (by omega) (by omega)
      exact ⟨q0,iy,q2,q3,q4,q5,q6⟩
   ·refine ⟨l,p+1,?_,hw,by omega,hR.less (by omega)⟩
    refine Ev.step (fun n=>by simp only [spec_l72Log.l0];rfl) ?_
    exact ev_neg (by omega) (Ev.bind hr (ev_neg e0 (ev_pos e1 (ev_neg hz (evnow _)))))
  ·refine ⟨l,p+1,?_,hw,by omega,hR.less (by omega)⟩
   refine Ev.step (fun n=>by simp only [spec_l72Log.l0];rfl) ?_
   exact ev_neg (by omega) (Ev.bind hr (ev_neg e0 (ev_neg e1 (evnow _))))
theorem log_l0 (b:List Int) (hb:Bytes b):∀ (n:Nat) (l:List S44) (t:List S69) (B:Nat) (md:List Int) (p:Int) (m:Nat),wfL l→l.length+n≤20→Inv t B→(B+1) * 2 ^ n≤16384→t.length+n≤100→md.length=3→Rd p (m+18 * n+20) →
  ∃ (l':List S44) (p':Int),Ev (fun k=>spec_l72Log.l0 k l t md n b p) (l',p')∧wfL l'∧l'.length≤21∧Rd p' m
 | 0,l,t,B,md,p,m,hw,hl,hI,hB,ht,hm,hp=>log_end b hb l t md p m hw (by omega) (hp.less (by omega))
 | n+1,l,t,B,md,p,m,hw,hl,hI,hB,ht,hm,hp=>by
  obtain ⟨r,hr,hR,r0,r1,_⟩:=pick_f b p 3 (m+18 * n+37) hb (hp.less (by omega))
  have r1:=r1 (by omega)
  have w1:wrap64 (1+r)=1+r:=wrap_id _ (by omega) (by omega)
  have w2:wrap64 (1+r - 1)=r:=by rw [wrap_id _ (by omega) (by omega)];omega
  obtain ⟨k,i,u,a,s,p',h1,⟨hk,hi3,g2,g3,g4,g5⟩,h3⟩:=op72_f b hb t B (1+r) (rd md r) (p+1) (m+18 * n+20) hI (by omega) hR
  have hB2:B+1≤16384:=Nat.le_trans (Nat.le_mul_of_pos_right _ (Nat.two_pow_pos _)) hB
  obtain ⟨t',ht',hI',hlt⟩:=do_f t B k i u a s hI (by omega) (by omega) hk hi3 g2 (by omega) g5
  have hI2:Inv t' ((2 * B+1:Nat):Int):=hI'.more (by omega)
  have hB3:(2 * B+1+1) * 2 ^ n≤16384:=by
   have e:(2 * B+1+1) * 2 ^ n=(B+1) * 2 ^ (n+1):=by rw [Nat.pow_succ,show 2 * B+1+1=(B+1) * 2 by omega,Nat.mul_assoc,Nat.mul_comm 2]
   rw [e];exact hB
  have hs:=seq_f l (1+r) (by omega)
  have hkx:I64 k:=by rcases hk with rfl|rfl|rfl <;> exact i64_small (by omega) (by omega)
  have ir:I64 (1+r):=i64_small (by omega) (by omega)
  have hwe:wfE (⟨1+r,wrap64 (cntE l (1+r)+1),⟨k,i,u,a,s⟩⟩:S44):=⟨ir,wrap_I64 _,hkx,g2,g3,g4,by show s.size≤_;omega⟩
  have wn:wrap64 (((n+1:Nat):Int) - 1)=n:=by rw [wrap_id _ (by omega) (by omega)];omega
  by_cases e1:k=1
  ·obtain ⟨l',q,f1,f2,f3,f4⟩:=log_l0 b hb n (l++[⟨1+r,wrap64 (cntE l (1+r)+1),⟨k,i,u,a,s⟩⟩]) t' (2 * B+1) (md.set r.toNat (wrap64 (rd md r+1))) p' m (wfL_snoc hw hwe) (by simp;omega) hI2 hB3 (by omega) (by rw [List.length_set];exact hm) h3
   refine ⟨l',q,?_,f2,f3,f4⟩
   refine Ev.step (fun n=>by simp only [spec_l72Log.l0];rfl) ?_
   refine ev_pos (by omega) (Ev.bind hr ?_)
   simp only [w1,w2]
   refine ev_pos r0 (ev_pos (by omega) (Ev.bind h1 (ev_pos e1 (Ev.bind hs (ev_pos (by omega) (Ev.bind ht' ?_))))))
   rw [wn]
   exact f1
  ·obtain ⟨l',q,f1,f2,f3,f4⟩:=log_l0 b hb n (l++[⟨1+r,wrap64 (cntE l (1+r)+1),⟨k,i,u,a,s⟩⟩]) t' (2 * B+1) md p' m (wfL_snoc hw hwe) (by simp;omega) hI2 hB3 (by omega) hm h3
   refine ⟨l',q,?_,f2,f3,f4⟩
   refine Ev.step (fun n=>by simp only [spec_l72Log.l0];rfl) ?_
   refine ev_pos (by omega) (Ev.bind hr ?_)
   simp only [w1,w2]
   refine ev_pos r0 (ev_pos (by omega) (Ev.bind h1 (ev_neg e1 (Ev.bind hs (ev_pos (by omega) (Ev.bind ht' ?_))))))
   rw [wn]
   exact f1
theorem log72_f (b:List Int) (hb:Bytes b) (p:Int) (m:Nat) (hp:Rd p (m+300)):∃ (l:List S44) (p':Int),Ev (fun k=>spec_l72Log.f k b p) (l,p')∧wfL l∧l.length≤21∧Rd p' m:=by
 obtain ⟨r,hr,hR,r0,r1,_⟩:=pick_f b p 14 (m+299) hb hp
 have r1:=r1 (by omega)
 obtain ⟨n,rfl⟩:∃ n:Nat,r=n:=⟨r.toNat,by omega⟩
 have hI:Inv ([⟨1,0,⟨#[]⟩⟩,⟨2,0,⟨#[]⟩⟩,⟨3,0,⟨#[]⟩⟩]:List S69) ((0:Nat):Int):=by
  refine ⟨fun x hx=>?_,fun x hx h3=>?_,⟨⟨3,0,⟨#[]⟩⟩,by simp,rfl⟩,fun x hx=>?_⟩
  all_goals simp only [List.mem_cons,List.not_mem_nil,or_false] at hx
  ·rcases hx with rfl|rfl|rfl <;> exact ⟨Int.le_refl _,Int.le_refl _⟩
  ·rcases hx with rfl|rfl|rfl <;> rfl
  ·rcases hx with rfl|rfl|rfl <;> exact ⟨i64_small (by decide) (by decide),by decide⟩
 have hpow:(0+1) * 2 ^ n≤16384:=by
  have:2 ^ n≤2 ^ 14:=Nat.pow_le_pow_right (by decide) (by omega)
  omega
 obtain ⟨l,p',h1,h2,h3,h4⟩:=log_l0 b hb n [] _ 0 [0,0,0] (p+1) m (fun e he=>by cases he) (by simp;omega) hI hpow (by simp;omega) rfl (hR.less (by omega))
 refine ⟨l,p',?_,h2,h3,h4⟩
 unfold spec_l72Log.f spec_TreeNew.f
 simp only [Option.bind_some]
 exact Ev.bind hr h1
theorem server72_f (b:List Int) (hb:Bytes b) (p:Int) (m:Nat) (hp:Rd p (m+303)):∃ (l:List S44) (s:Int) (u:Bool) (p':Int),Ev (fun k=>spec_l72Server.f k b p) (l,s,u,p')∧wfL l∧l.length≤21∧0≤s∧s≤22∧Rd p' m:=by
 obtain ⟨l,p1,h1,h2,h3,h4⟩:=log72_f b hb p (m+3) hp
 obtain ⟨x,hx,hX,x0,x1,_⟩:=pick_f b p1 8 (m+2) hb h4
 obtain ⟨y,hy,hY,y0,y1,_⟩:=pick_f b (p1+1) (wrap64 ((l.length:Int)+1)) (m+1) hb hX
 obtain ⟨z,hz,hZ,z0,z1,_⟩:=pick_f b (p1+1+1) 24 m hb hY
 have wl:wrap64 ((l.length:Int)+1)=l.length+1:=wrap_id _ (by omega) (by omega)
 have y1:=y1 (by omega)
 have z1:=z1 (by omega)
 have ez:Int.tdiv z 23=z / 23:=Int.tdiv_eq_ediv_of_nonneg z0
 have es:wrap64 (y+wrap64 (Int.tdiv z 23))=y+z / 23:=by rw [ez,wrap_id (z / 23) (by omega) (by omega),wrap_id _ (by omega) (by omega)]
 refine ⟨l,y+z / 23,decide (x > 0),p1+1+1+1,?_,h2,h3,by omega,by omega,hZ⟩
 unfold spec_l72Server.f
 refine Ev.bind h1 (Ev.bind hx (Ev.bind hy (Ev.bind hz ?_)))
 rw [es]
 exact evnow _
theorem open_f (code:List Int) (h:∀ x∈code,0≤x∧x≤255):∃ b:List Int,spec_l6Open.f code=some (b,0)∧Bytes b:=by
 unfold spec_l6Open.f
 by_cases hl:(code.length:Int) > 2000
 ·refine ⟨code.take 2000,by rw [if_pos hl,if_pos (by omega)],by rw [List.length_take];omega,fun x hx=>h x (List.mem_of_mem_take hx)⟩
 ·exact ⟨code,by rw [if_neg hl],by omega,h⟩
end Go.Proofs.YtdpklbomhdpimaaDoor.PL
namespace Go.Proofs.YtdpklbomhdpimaaDoor.FP
open Go.Proofs.YtdpklbomhdpimaaDoor.P
inductive Fo where
 | nil
 | nd (i:Nat) (t:ByteArray) (k n:Fo)
structure Nd where
 t:ByteArray
 up:Nat
 first:Nat
 next:Nat
def Fo.hd:Fo→Nat
 | .nil=>0
 | .nd i _ _ _=>i
def Fo.ids:Fo→List Nat
 | .nil=>[]
 | .nd i _ k n=>i::(k.ids++n.ids)
def Fo.tops:Fo→List Nat
 | .nil=>[]
 | .nd i _ _ n=>i::n.tops
def Rep (h:Nat→Nd) (up:Nat):Fo→Prop
 | .nil=>True
 | .nd i t k n=>i≠0∧h i=⟨t,up,k.hd,n.hd⟩∧Rep h i k∧Rep h up n
def sub (x:Nat):Fo→Fo
 | .nil=>.nil
 | .nd j u k n=>if j=x then k else if x∈k.ids then sub x k else sub x n
theorem nodup_nd {j:Nat} {u:ByteArray} {k n:Fo} (h:(Fo.nd j u k n).ids.Nodup):j∉k.ids∧j∉n.ids∧k.ids.Nodup∧n.ids.Nodup∧(∀ x∈k.ids,x∉n.ids):=by
 simp only [Fo.ids,List.nodup_cons,List.nodup_append,List.mem_append,not_or] at h
 exact ⟨h.1.1,h.1.2,h.2.1,h.2.2.1,fun x hx hn=>h.2.2.2 x hx x hn rfl⟩
def RepTop (h:Nat→Nd):Fo→Prop
 | .nil=>True
 | .nd i t k n=>i≠0∧h i=⟨t,0,k.hd,0⟩∧Rep h i k∧RepTop h n
theorem tops_ids:∀ {F:Fo} {x:Nat},x∈F.tops→x∈F.ids
 | .nil,x,h=>by cases h
 | .nd j t k n,x,h=>by
  simp only [Fo.tops,List.mem_cons] at h
  simp only [Fo.ids,List.mem_cons,List.mem_append]
  rcases h with h|h
  ·exact Or.inl h
  ·exact Or.inr (Or.inr (tops_ids h))
def sp:Nat→Fo→Nat
 | _,.nil=>0
 | 0,.nd i _ _ .nil=>i
 | e+1,.nd _ _ k .nil=>sp e k
 | e,.nd _ _ _ (.nd i t k n)=>sp e (.nd i t k n)
end Go.Proofs.YtdpklbomhdpimaaDoor.FP
namespace Go.Proofs.YtdpklbomhdpimaaDoor.P
open Go.RowKit Go.Proofs.YtdpklbomhdpimaaDoorW.PrintWords Go.Proofs.YtdpklbomhdpimaaDoorW.PrintLast Go.Proofs.YtdpklbomhdpimaaDoorW.PrintMore Go.Proofs.YtdpklbomhdpimaaDoor.FP
def pa (o:Option Nat):Option Addr:=o.map fun b=>⟨b,0,none⟩
theorem pa_some (b:Nat):pa (some b)=some ⟨b,0,none⟩:=rfl
def nodeC (A:Nat→Option Nat) (i:Nat) (x:Nd):Array Value:=#[.int .i64 (i:Int),.string x.t,.pointer (pa (A x.up)),.pointer (pa (A x.first)),.pointer (pa (A x.next))]
def tabC (A:Nat→Option Nat):Array Value:=((List.range 37).map fun i=>Value.pointer (pa (A i))).toArray
structure Mem (w:World) (n0 F:Nat) (A:Nat→Option Nat) (h:Nat→Nd):Prop where
 z:A 0=none
 rng:∀ i b,A i=some b→i < 37
 inj:∀ i j b,A i=some b→A j=some b→i=j
 ne:∀ i b,A i=some b→b≠F
 lo:∀ i b,A i=some b→n0≤b
 loF:n0≤F
 tab:w.heap[F]?=some (.cells (tabC A) 165 (0,0))
 nod:∀ i b,A i=some b→w.heap[b]?=some (.cells (nodeC A i (h i)) 168 (0,0))
 cu:∀ i,A i≠none→(h i).up=0∨A (h i).up≠none
 cf:∀ i,A i≠none→(h i).first=0∨A (h i).first≠none
 cn:∀ i,A i≠none→(h i).next=0∨A (h i).next≠none
theorem Mem.kept {w w':World} {n0 F:Nat} {A:Nat→Option Nat} {h:Nat→Nd} (m:Mem w n0 F A h) (hk:∀ b,b < w.heap.size→w'.heap[b]?=w.heap[b]?):Mem w' n0 F A h :=
 { m with tab:=(hk F (blk_lt m.tab)).trans m.tab,nod:=fun i b e=>(hk b (blk_lt (m.nod i b e))).trans (m.nod i b e) }
theorem Mem.below {w w':World} {n0 F:Nat} {A:Nat→Option Nat} {h:Nat→Nd} (m:Mem w n0 F A h) (hb:Below w.heap.size w w'):Mem w' n0 F A h:=m.kept fun b hl=>hb.block b hl
theorem Mem.alloc {w:World} {n0 F:Nat} {A:Nat→Option Nat} {h:Nat→Nd} (m:Mem w n0 F A h) (o:Obj):Mem (w.alloc o) n0 F A h:=m.kept fun b hl=>Below.heap_alloc w o b hl
theorem Mem.drew {w:World} {n0 F:Nat} {A:Nat→Option Nat} {h:Nat→Nd} (m:Mem w n0 F A h):Mem w.drew n0 F A h:=m.kept fun _ _=>rfl
theorem Mem.drewN {w:World} {n0 F:Nat} {A:Nat→Option Nat} {h:Nat→Nd} (m:Mem w n0 F A h) (n:Nat):Mem (w.drewN n) n0 F A h:=m.kept fun _ _=>rfl
theorem Mem.lt {w:World} {n0 F:Nat} {A:Nat→Option Nat} {h:Nat→Nd} (m:Mem w n0 F A h) {i b:Nat} (e:A i=some b):b < w.heap.size:=blk_lt (m.nod i b e)
theorem Mem.c0 {w:World} {n0 F:Nat} {A:Nat→Option Nat} {h:Nat→Nd} (m:Mem w n0 F A h) {i b:Nat} (e:A i=some b):w.cell? ⟨b,0,none⟩=some (.int .i64 (i:Int)):=(bC_ (m.nod i b e) 0).trans rfl
theorem Mem.c1 {w:World} {n0 F:Nat} {A:Nat→Option Nat} {h:Nat→Nd} (m:Mem w n0 F A h) {i b:Nat} (e:A i=some b):w.cell? ⟨b,1,none⟩=some (.string (h i).t):=(bC_ (m.nod i b e) 1).trans rfl
theorem Mem.c2 {w:World} {n0 F:Nat} {A:Nat→Option Nat} {h:Nat→Nd} (m:Mem w n0 F A h) {i b:Nat} (e:A i=some b):w.cell? ⟨b,2,none⟩=some (.pointer (pa (A (h i).up))):=(bC_ (m.nod i b e) 2).trans rfl
theorem Mem.c3 {w:World} {n0 F:Nat} {A:Nat→Option Nat} {h:Nat→Nd} (m:Mem w n0 F A h) {i b:Nat} (e:A i=some b):w.cell? ⟨b,3,none⟩=some (.pointer (pa (A (h i).first))):=(bC_ (m.nod i b e) 3).trans rfl
theorem Mem.c4 {w:World} {n0 F:Nat} {A:Nat→Option Nat} {h:Nat→Nd} (m:Mem w n0 F A h) {i b:Nat} (e:A i=some b):w.cell? ⟨b,4,none⟩=some (.pointer (pa (A (h i).next))):=(bC_ (m.nod i b e) 4).trans rfl
theorem tabC_get (A:Nat→Option Nat) (i:Nat) (hi:i < 37):(tabC A)[i]?=some (.pointer (pa (A i))):=by
 simp [tabC,hi]
theorem Mem.cF {w:World} {n0 F:Nat} {A:Nat→Option Nat} {h:Nat→Nd} (m:Mem w n0 F A h) (i:Nat) (hi:i < 37):w.cell? ⟨F,i,none⟩=some (.pointer (pa (A i))):=(bC_ m.tab i).trans (tabC_get A i hi)
def upN (h:Nat→Nd) (i:Nat) (x:Nd):Nat→Nd:=fun j=>if j=i then x else h j
theorem Mem.set {w:World} {n0 F:Nat} {A:Nat→Option Nat} {h:Nat→Nd} (m:Mem w n0 F A h) {i b:Nat} (e:A i=some b) (k:Nat) (v:Value) (x:Nd) (hx:(nodeC A i (h i)).setIfInBounds k v=nodeC A i x)
  (xu:x.up=0∨A x.up≠none) (xf:x.first=0∨A x.first≠none) (xn:x.next=0∨A x.next≠none):Mem (w.setCell ⟨b,k,none⟩ v) n0 F A (upN h i x) where
 z:=m.z
 rng:=m.rng
 inj:=m.inj
 ne:=m.ne
 lo:=m.lo
 loF:=m.loF
 tab:=blk_far m.tab (fun e2=>m.ne i b e e2.symm) v
 nod:=fun j c ec=>by
  unfold upN
  by_cases hj:j=i
  ·subst hj
   obtain rfl:c=b:=by rw [e] at ec;exact (sj_ ec).symm
   rw [if_pos rfl,←hx]
   exact blk_set (m.nod j c e) k v
  ·rw [if_neg hj]
   exact blk_far (m.nod j c ec) (fun (e2:c=b)=>hj (m.inj j i c ec (e2 ▸ e))) v
 cu:=fun j hj=>by unfold upN;split;exact xu;exact m.cu j hj
 cf:=fun j hj=>by unfold upN;split;exact xf;exact m.cf j hj
 cn:=fun j hj=>by unfold upN;split;exact xn;exact m.cn j hj
def upA (A:Nat→Option Nat) (i b:Nat):Nat→Option Nat:=fun j=>if j=i then some b else A j
theorem tabC_up (A:Nat→Option Nat) (i b:Nat) (hi:i < 37):(tabC A).setIfInBounds i (.pointer (some ⟨b,0,none⟩))=tabC (upA A i b):=by
 unfold tabC
 rw [List.setIfInBounds_toArray]
 congr 1
 apply List.ext_getElem (by simp)
 intro k h1 h2
 simp only [List.getElem_set,List.getElem_map,List.getElem_range,upA]
 by_cases hk:i=k
 ·rw [if_pos hk,if_pos hk.symm];rfl
 ·rw [if_neg hk,if_neg (fun e=>hk e.symm)]
theorem Mem.add {w:World} {n0 F:Nat} {A:Nat→Option Nat} {h:Nat→Nd} (m:Mem w n0 F A h) {i:Nat} (h0:i≠0) (hi:i < 37) (hA:A i=none) (hne:∀ j,A j≠none→(h j).up≠i∧(h j).first≠i∧(h j).next≠i) {b:Nat} {t:ByteArray} (hb:∀ j,A j≠some b) (hbF:b≠F) (hlo:n0≤b)
  (hnew:w.heap[b]?=some (.cells #[.int .i64 (i:Int),.string t,.pointer none,.pointer none,.pointer none] 168 (0,0))) :
  Mem (w.setCell ⟨F,i,none⟩ (.pointer (some ⟨b,0,none⟩))) n0 F (upA A i b) (upN h i ⟨t,0,0,0⟩) where
 z:=by unfold upA;rw [if_neg (fun e=>h0 e.symm)];exact m.z
 rng:=fun j c e=>by
  unfold upA at e
  by_cases hj:j=i
  ·rw [hj];exact hi
  ·rw [if_neg hj] at e;exact m.rng j c e
 inj:=fun j k c ej ek=>by
  unfold upA at ej ek
  by_cases hj:j=i
  ·by_cases hk:k=i
   ·rw [hj,hk]
   ·rw [if_pos hj] at ej;rw [if_neg hk] at ek
    exact absurd (ek.trans ej.symm) (hb k)
  ·by_cases hk:k=i
   ·rw [if_neg hj] at ej;rw [if_pos hk] at ek
    exact absurd (ej.trans ek.symm) (hb j)
   ·rw [if_neg hj] at ej;rw [if_neg hk] at ek
    exact m.inj j k c ej ek
 ne:=fun j c e=>by
  unfold upA at e
  by_cases hj:j=i
  ·rw [if_pos hj] at e;rw [←sj_ e];exact hbF
  ·rw [if_neg hj] at e;exact m.ne j c e
 lo:=fun j c e=>by
  unfold upA at e
  by_cases hj:j=i
  ·rw [if_pos hj] at e;rw [←sj_ e];exact hlo
  ·rw [if_neg hj] at e;exact m.lo j c e
 loF:=m.loF
 tab:=by
  rw [←tabC_up A i b hi]
  exact blk_set m.tab i _
 nod:=fun j c e=>by
  have hF:∀ {c:Nat} {cs:Array Value} {t:TypeId},c≠F→w.heap[c]?=some (.cells cs t (0,0))→(w.setCell ⟨F,i,none⟩ (.pointer (some ⟨b,0,none⟩))).heap[c]?=some (.cells cs t (0,0)):=fun hc hh=>blk_far hh (p:=⟨F,i,none⟩) hc _
  unfold upA at e
  by_cases hj:j=i
  ·rw [if_pos hj] at e
   obtain rfl:=sj_ e
   subst hj
   have:nodeC (upA A j b) j (upN h j ⟨t,0,0,0⟩ j)=#[.int .i64 (j:Int),.string t,.pointer none,.pointer none,.pointer none]:=by
    have h0':¬ (0=j):=fun e=>h0 e.symm
    simp [nodeC,upN,upA,h0',m.z,pa]
   rw [this]
   exact hF hbF hnew
  ·rw [if_neg hj] at e
   have hn:=m.nod j c e
   have e2:nodeC (upA A i b) j (upN h i ⟨t,0,0,0⟩ j)=nodeC A j (h j):=by
    obtain ⟨n1,n2,n3⟩:=hne j (by rw [e];simp)
    unfold nodeC upN upA
    rw [if_neg hj,if_neg n1,if_neg n2,if_neg n3]
   rw [e2]
   exact hF (m.ne j c e) hn
 cu:=fun j hj=>by
  unfold upN
  by_cases hji:j=i
  ·rw [if_pos hji];exact Or.inl rfl
  ·rw [if_neg hji]
   have hj':A j≠none:=by unfold upA at hj;rw [if_neg hji] at hj;exact hj
   rcases m.cu j hj' with h1|h1
   ·exact Or.inl h1
   ·right;unfold upA;split;simp;exact h1
 cf:=fun j hj=>by
  unfold upN
  by_cases hji:j=i
  ·rw [if_pos hji];exact Or.inl rfl
  ·rw [if_neg hji]
   have hj':A j≠none:=by unfold upA at hj;rw [if_neg hji] at hj;exact hj
   rcases m.cf j hj' with h1|h1
   ·exact Or.inl h1
   ·right;unfold upA;split;simp;exact h1
 cn:=fun j hj=>by
  unfold upN
  by_cases hji:j=i
  ·rw [if_pos hji];exact Or.inl rfl
  ·rw [if_neg hji]
   have hj':A j≠none:=by unfold upA at hj;rw [if_neg hji] at hj;exact hj
   rcases m.cn j hj' with h1|h1
   ·exact Or.inl h1
   ·right;unfold upA;split;simp;exact h1
end Go.Proofs.YtdpklbomhdpimaaDoor.P
namespace Go.Proofs.YtdpklbomhdpimaaDoor.P
open Go.RowKit Go.Shelf Go.Proofs.YtdpklbomhdpimaaDoorW.PrintWords Go.Proofs.YtdpklbomhdpimaaDoorW.PrintLast Go.Proofs.YtdpklbomhdpimaaDoorW.PrintMore Go.Proofs.YtdpklbomhdpimaaDoor.FP
attribute [local go_sem] Oper.semAt_some

def NList (A:Nat→Option Nat) (n0:Nat) (W:World):Option Addr→List Nat→Prop
 | p,[]=>p=none
 | p,x::rest=>∃ b q,A x=some b∧p=some ⟨b,0,none⟩∧b < n0∧W.cell? ⟨b,4,none⟩=some (.pointer q)∧NList A n0 W q rest
theorem NList.below {A:Nat→Option Nat} {n0:Nat} {V W:World} (h:Below n0 V W):∀ {p:Option Addr} {xs:List Nat},NList A n0 V p xs→NList A n0 W p xs
 | _,[],hl=>hl
 | _,_::_,⟨b,q,h1,h2,h3,h4,h5⟩=>⟨b,q,h1,h2,h3,(h.cell (p:=⟨b,4,none⟩) h3).trans h4,NList.below h h5⟩
theorem NList.len {A:Nat→Option Nat} {n0:Nat} {W:World}:∀ {xs ys:List Nat} {p:Option Addr},NList A n0 W p xs→NList A n0 W p ys→xs.length=ys.length
 | [],[],_,_,_=>rfl
 | [],_::_,_,h,⟨b,q,_,h2,_⟩=>by rw [show _=none from h] at h2;cases h2
 | _::_,[],_,⟨b,q,_,h2,_⟩,h=>by rw [show _=none from h] at h2;cases h2
 | _::_,_::_,_,⟨b,q,h1,h2,h3,h4,h5⟩,⟨c,r,g1,g2,g3,g4,g5⟩=>by
  rw [h2] at g2
  obtain rfl:b=c:=congrArg Addr.block (sj_ g2)
  rw [h4] at g4
  obtain rfl:q=r:=by injection g4 with e;injection e
  rw [List.length_cons,List.length_cons,NList.len h5 g5]
open Classical in
noncomputable def nleft (A:Nat→Option Nat) (n0:Nat) (W:World) (v:Value):Nat :=
 if h:∃ r:Option Addr×List Nat,v=.pointer r.1∧NList A n0 W r.1 r.2 then (Classical.choose h).2.length else 0
theorem nleft_eq {A:Nat→Option Nat} {n0:Nat} {W:World} {q:Option Addr} {xs:List Nat} (h:NList A n0 W q xs):nleft A n0 W (.pointer q)=xs.length:=by
 have hex:∃ r:Option Addr×List Nat,Value.pointer q=.pointer r.1∧NList A n0 W r.1 r.2:=⟨(q,xs),rfl,h⟩
 unfold nleft
 rw [dif_pos hex]
 obtain ⟨e,hl⟩:=Classical.choose_spec hex
 have e':q=(Classical.choose hex).1:=by simpa using e
 rw [←e'] at hl
 exact NList.len hl h
theorem nlist_of {w:World} {n0 F:Nat} {A:Nat→Option Nat} {h:Nat→Nd} (m:Mem w n0 F A h) {up:Nat}:∀ {G:Fo},Rep h up G→(∀ x∈G.ids,A x≠none)→NList A w.heap.size w (pa (A G.hd)) G.tops
 | .nil,_,_=>by show pa (A 0)=none;rw [m.z];rfl
 | .nd i t k n,⟨h1,h2,h3,h4⟩,hA=>by
  obtain ⟨b,hb⟩:=Option.ne_none_iff_exists'.1 (hA i (by simp [Fo.ids]))
  refine ⟨b,pa (A n.hd),hb,by show pa (A i)=_;rw [hb];rfl,m.lt hb,?_,nlist_of m h4 fun x hx=>hA x (by simp [Fo.ids,hx])⟩
  rw [m.c4 hb,h2]
theorem kids_in (F:Fence) (n:Nat) (hf:F.fn 156) (hro:F.round=none) (p0:Option Addr) (w:World) :
  CallsIn F n Tryd.prog 156 #[.pointer p0] w fun e w'=>e=.returned (.func (.func 157) #[] #[.pointer (some ⟨w.heap.size,0,none⟩)])∧w'=w.alloc (.cells #[.pointer p0] 162):=by
 refine callsIn_of_wp Tryd.func156 rfl hf ?_ hro
 simp only [Tryd.ntmps156,List.size_toArray,List.length_cons,List.length_nil,Nat.reduceAdd,Nat.reduceSub,Array.replicate_succ,Array.replicate_zero,List.push_toArray,List.append_toArray,List.nil_append,List.cons_append]
 gi_wp2
 go_ret
 exact ⟨rfl,rfl⟩
structure KA (Q:Nat→Prop) where
 val:Nat
 ok:Q val
theorem kids1_in (F:Fence) (n:Nat) (hf:F.fn 157) (hro:F.round=none) (hn:1≤n) (l Bn n0 b:Nat) (Q:Nat→Prop) (A:Nat→Option Nat) (p0:Option Addr) (xs:List (KA Q)) (J Jx:List (KA Q)→World→Prop)
  (hY:∀ pre x W,J pre W→pre.length < xs.length→YieldAt F (n - 1) Tryd.prog l #[.pointer (pa (A x.val))] W fun e W' =>
   (e=.returned (.bool true)∧J (pre++[x]) W'∧Below n0 W W')∨(e=.returned (.bool false)∧Jx (pre++[x]) W'))
  (W:World) (hBn:W.cell? ⟨Bn,0,none⟩=some (.pointer (some ⟨b,0,none⟩))) (hb3:W.cell? ⟨b,3,none⟩=some (.pointer p0)) (hL:NList A n0 W p0 (xs.map KA.val)) (h0:J [] W) :
  CallsIn F n Tryd.prog 157 #[.func (.yield l) #[] #[],.pointer (some ⟨Bn,0,none⟩)] W fun e W'=>(∃ v,e=.returned v) ∧
   ((∃ ys,ys=xs∧J ys W')∨(∃ pre,pre <+: xs∧Jx pre W')):=by
 refine callsIn_of_wp Tryd.func157 rfl hf ?_ hro
 simp only [Tryd.ntmps157,List.size_toArray,List.length_cons,List.length_nil,Nat.reduceAdd,Nat.reduceSub,Array.replicate_succ,Array.replicate_zero,List.push_toArray,List.append_toArray,List.nil_append,List.cons_append]
 gi_wp2
 gi_loopw [3] (fun p wr=>∃ (pre rest:List (KA Q)) (q:Option Addr),p=.pointer q∧xs=pre++rest∧NList A n0 wr q (rest.map KA.val)∧J pre wr)
  (fun p wr=>nleft A n0 wr p)
 case atStart =>
  exact ⟨[],xs,p0,rfl,rfl,hL,h0⟩
 case round =>
  obtain ⟨pre,rest,q,rfl,hx,hl,hJs⟩:=hrel
  cases rest with
  | nil =>
   obtain rfl:q=none:=hl
   gi_wp2
   go_end0
   exact ⟨⟨_,rfl⟩,.inl ⟨pre,by simp [hx],hJs⟩⟩
  | cons x rest =>
   have hl':=hl
   obtain ⟨c,q',hA,rfl,hc,hq,hr⟩:=hl
   obtain ⟨fn,tmps,assign,body,hy,hR⟩:=hY pre x wr hJs (by rw [hx];simp)
   rw [hA,pa_some] at hy
   have HA:=a_ hA
   clear hA
   gi_wp2
   refine hR.mono ?_
   rintro e W3 (⟨rfl,hJ3,hk3⟩|⟨rfl,hJx3⟩)
   ·have hq3:W3.cell? ⟨c,4,none⟩=some (.pointer q'):=(hk3.cell (p:=⟨c,4,none⟩) hc).trans hq
    gi_wp2
    go_roundw
    case rel=>exact ⟨pre++[x],rest,q',rfl,by simp [hx],hr.below hk3,hJ3⟩
    case measure=>rw [nleft_eq (hr.below hk3),nleft_eq hl'];simp
   ·gi_wp2
    refine bodyPost_ret (results_none rfl _ _ _) rfl ?_
    exact ⟨⟨_,rfl⟩,.inr ⟨pre++[x],⟨rest,by simp [hx]⟩,hJx3⟩⟩
theorem kids_stops (F:Fence) (n:Nat) (hf:F.fn 157) (hro:F.round=none) (hn:1≤n) (Bn n0 b:Nat) (Q:Nat→Prop) (A:Nat→Option Nat) (p0:Option Addr) (xs:List (KA Q)) (w:World) (hBn:Bn < w.heap.size) (hn0:n0≤w.heap.size) (hb:b < w.heap.size)
  (hc:w.cell? ⟨Bn,0,none⟩=some (.pointer (some ⟨b,0,none⟩))) (hb3:w.cell? ⟨b,3,none⟩=some (.pointer p0)) (hL:NList A n0 w p0 (xs.map KA.val)) :
  SeqStopsK F n Tryd.prog 157 #[.pointer (some ⟨Bn,0,none⟩)] (fun x:KA Q=>#[.pointer (pa (A x.val))]) (Below n0) (fun ys=>ys=xs) (fun pre=>pre <+: xs) xs.length w:=fun l J Jx W hW _ _ hY h0 =>
 kids1_in F n hf hro hn l Bn n0 b Q A p0 xs J Jx hY W ((hW.cell (p:=⟨Bn,0,none⟩) hBn).trans hc) ((hW.cell (p:=⟨b,3,none⟩) hb).trans hb3) (hL.below (hW.mono hn0)) h0
theorem attach_val {Q:Nat→Prop}:∀ {l:List Nat} (h:∀ x∈l,Q x),∃ xs:List (KA Q),xs.map KA.val=l
 | [],_=>⟨[],rfl⟩
 | x::l,h=>by
  obtain ⟨xs,hx⟩:=attach_val (l:=l) fun y hy=>h y (List.mem_cons_of_mem _ hy)
  exact ⟨⟨x,h x List.mem_cons_self⟩::xs,by rw [List.map_cons,hx]⟩
def pv (i:Nat):Nat→List Nat→Nat
 | p,[]=>p
 | p,y::r=>if y=i then p else pv i y r
theorem cell_of_box_f {W:World} {B:Nat} {v:Value} {t:TypeId} (h:W.heap[B]?=some (.cells #[v] t (0,0))):W.cell? ⟨B,0,none⟩=some v∧W.frozen? ⟨B,0,none⟩=false:=by
 constructor <;> simp [World.cell?,World.frozen?,h]
theorem cell_new_f (W:World) (v:Value) (t:TypeId):(W.alloc (.cells #[v] t)).cell? ⟨W.heap.size,0,none⟩=some v∧(W.alloc (.cells #[v] t)).frozen? ⟨W.heap.size,0,none⟩=false :=
 cell_of_box_f (World.alloc_heap_new W _)
end Go.Proofs.YtdpklbomhdpimaaDoor.P
namespace Go.Proofs.YtdpklbomhdpimaaDoor.FP
open Go.Proofs.YtdpklbomhdpimaaDoor.P
def under (u x:Nat) (F:Fo):Prop:=u∈F.ids∧(x=u∨x∈(sub u F).ids)
instance (u x:Nat) (F:Fo):Decidable (under u x F):=by unfold under;exact inferInstance
end Go.Proofs.YtdpklbomhdpimaaDoor.FP
namespace Go.Proofs.YtdpklbomhdpimaaDoor.P
open Go.RowKit Go.Proofs.YtdpklbomhdpimaaDoorW.PrintWords Go.Proofs.YtdpklbomhdpimaaDoorW.PrintLast Go.Proofs.YtdpklbomhdpimaaDoorW.PrintMore Go.Proofs.YtdpklbomhdpimaaDoor.PL Go.Proofs.YtdpklbomhdpimaaDoor.FP
theorem Mem.far {w:World} {n0 F:Nat} {A:Nat→Option Nat} {h:Nat→Nd} (m:Mem w n0 F A h) {p:Addr} (hF:F≠p.block) (hA:∀ i,A i≠some p.block) (v:Value):Mem (w.setCell p v) n0 F A h :=
 { m with tab:=blk_far m.tab hF v,nod:=fun i b e=>blk_far (m.nod i b e) (fun e2=>hA i (e2 ▸ e)) v }
theorem as_hit {P:Program} {t xT:TypeId} {fs:Array Field} (hu:P.underlying t=some (.struct fs)) (v:Value) (w:World):(Instr.typeAssert (.iface t v) xT t true).run P w=.ok (.tuple #[v,.bool true]) w:=by
 simp [Instr.typeAssert,run_underlying hu]
theorem as_miss {P:Program} {t t' xT:TypeId} {fs:Array Field} {z:Value} (hu:P.underlying t'=some (.struct fs)) (hz:(P.info? t').map (·.zero)=some (some z)) (hne:t≠t') (v:Value) (w:World):(Instr.typeAssert (.iface t v) xT t' true).run P w=.ok (.tuple #[z,.bool false]) w:=by
 obtain ⟨j,hj,hz'⟩:=Option.map_eq_some_iff.1 hz
 simp [Instr.typeAssert,run_underlying hu,typeInfo,zeroValue,hj,hz',hne]
@[go_sem]
theorem as_mm (v:Value) (w:World):(Instr.typeAssert (.iface 156 v) 118 156 true).run Tryd.prog w=.ok (.tuple #[v,.bool true]) w:=as_hit Tryd.underlying156 v w
@[go_sem]
theorem as_tt (v:Value) (w:World):(Instr.typeAssert (.iface 159 v) 118 159 true).run Tryd.prog w=.ok (.tuple #[v,.bool true]) w:=as_hit Tryd.underlying159 v w
@[go_sem]
theorem as_vv (v:Value) (w:World):(Instr.typeAssert (.iface 161 v) 118 161 true).run Tryd.prog w=.ok (.tuple #[v,.bool true]) w:=as_hit Tryd.underlying161 v w
def zM:Value:=.agg #[.int .i64 0,.int .i64 0,.int .i64 0,.string ByteArray.empty]
def zT:Value:=.agg #[.int .i64 0,.string ByteArray.empty]
def zV:Value:=.agg #[.int .i64 0,.int .i64 0,.int .i64 0]
@[go_sem]
theorem as_tm (v:Value) (w:World):(Instr.typeAssert (.iface 159 v) 118 156 true).run Tryd.prog w=.ok (.tuple #[zM,.bool false]) w:=as_miss Tryd.underlying156 (by kernel_rfl) (by decide) v w
@[go_sem]
theorem as_vm (v:Value) (w:World):(Instr.typeAssert (.iface 161 v) 118 156 true).run Tryd.prog w=.ok (.tuple #[zM,.bool false]) w:=as_miss Tryd.underlying156 (by kernel_rfl) (by decide) v w
@[go_sem]
theorem as_mt (v:Value) (w:World):(Instr.typeAssert (.iface 156 v) 118 159 true).run Tryd.prog w=.ok (.tuple #[zT,.bool false]) w:=as_miss Tryd.underlying159 (by kernel_rfl) (by decide) v w
@[go_sem]
theorem as_vt (v:Value) (w:World):(Instr.typeAssert (.iface 161 v) 118 159 true).run Tryd.prog w=.ok (.tuple #[zT,.bool false]) w:=as_miss Tryd.underlying159 (by kernel_rfl) (by decide) v w
@[go_sem]
theorem as_mv (v:Value) (w:World):(Instr.typeAssert (.iface 156 v) 118 161 true).run Tryd.prog w=.ok (.tuple #[zV,.bool false]) w:=as_miss Tryd.underlying161 (by kernel_rfl) (by decide) v w
@[go_sem]
theorem as_tv (v:Value) (w:World):(Instr.typeAssert (.iface 159 v) 118 161 true).run Tryd.prog w=.ok (.tuple #[zV,.bool false]) w:=as_miss Tryd.underlying161 (by kernel_rfl) (by decide) v w
end Go.Proofs.YtdpklbomhdpimaaDoor.P
namespace Go.Proofs.YtdpklbomhdpimaaDoor.P
open Go.RowKit Go.Shelf Go.Proofs.YtdpklbomhdpimaaDoorW.PrintWords Go.Proofs.YtdpklbomhdpimaaDoorW.PrintLast Go.Proofs.YtdpklbomhdpimaaDoorW.PrintMore Go.Proofs.YtdpklbomhdpimaaDoor.FP
attribute [local go_sem] Oper.semAt_some

theorem roomN {F:Fence} (hd:F.depth=none) (k:Nat):F.room k:=fun d h=>by rw [hd] at h;cases h
theorem callsIn_any {F:Fence} (hd:F.depth=none) {m m':Nat} {P:Program} {f:FuncId} {args:Array Value} {w:World} {R:Ending→World→Prop} (h:CallsIn F m P f args w R):CallsIn F m' P f args w R :=
 ⟨h.1,fun cs _=>h.2 cs (roomN hd _)⟩
theorem KeepsFrom.mono {B B':Nat} {W W':World} (h:KeepsFrom B W W') (hB:B≤B'):KeepsFrom B' W W':=⟨h.size,fun k o hk=>h.same k o (Nat.le_trans hB hk)⟩
def Stb {β:Type} (B0:Nat) (J:β→World→Prop):Prop :=
 ∀ s V W row,J s V→V.grownBy W row→(∀ r,row=some r→B0≤r∧∃ o:Obj,V.heap[r]?=some o∧(o.isCells=false∨∃ v,o=.cells #[v] 4 (0,0)))→J s W
theorem Stb.own {β:Type} {B0 B:Nat} {J:β→World→Prop} (h:Stb B0 J) (hB:B0≤B):OwnFrom B J:=fun s V W row hs hg hr=>h s V W row hs hg fun r e=>by
 obtain ⟨h1,o,h2,h3⟩:=hr r e
 exact ⟨Nat.le_trans hB h1,o,h2,Or.inl h3⟩
theorem Stb.alloc {β:Type} {B0:Nat} {J:β→World→Prop} (h:Stb B0 J) {s:β} {V:World} (o:Obj) (hs:J s V):J s (V.alloc o):=h s V _ none hs (World.grownBy_alloc V o none) (fun r e=>by cases e)
theorem Stb.put {β:Type} {B0:Nat} {J:β→World→Prop} (h:Stb B0 J) {s:β} {V:World} {l:Nat} {o:Obj} (o':Obj) (hs:J s V) (hl:V.heap[l]?=some o) (ho:o.isCells=false) (hB:B0≤l):J s (V.putObj l o') :=
 h s V _ (some l) hs (grownBy_putObj' V l o') (fun r e=>by cases e;exact ⟨hB,o,hl,Or.inl ho⟩)
theorem Stb.box {β:Type} {B0:Nat} {J:β→World→Prop} (h:Stb B0 J) {s:β} {V:World} {l:Nat} {v:Value} (v':Value) (hs:J s V) (hl:Boxed V l 4 v) (hB:B0≤l):J s (V.setCell ⟨l,0,none⟩ v') :=
 h s V _ (some l) hs (grownBy_setCell' V l v') (fun r e=>by cases e;exact ⟨hB,_,hl,Or.inr ⟨v,rfl⟩⟩)
structure YE (A:Nat→Option Nat) where
 val:Nat
 dep:Int
 ok:A val≠none
 d0:0≤dep∧dep≤1000
def YE.pr {A:Nat→Option Nat} (e:YE A):Nat×Int:=(e.val,e.dep)
theorem YE.inj {A:Nat→Option Nat}:∀ {e e':YE A},e.pr=e'.pr→e=e'
 | ⟨v,d,_,_⟩,⟨v',d',_,_⟩,h=>by
  have h1:v=v':=congrArg Prod.fst h
  have h2:d=d':=congrArg Prod.snd h
  subst h1;subst h2;rfl
theorem YE.inj_map {A:Nat→Option Nat}:∀ {l l':List (YE A)},l.map YE.pr=l'.map YE.pr→l=l'
 | [],[],_=>rfl
 | [],_::_,h=>by cases h
 | _::_,[],h=>by cases h
 | e::l,e'::l',h=>by
  rw [List.map_cons,List.map_cons] at h
  rw [YE.inj (List.cons.inj h).1,YE.inj_map (List.cons.inj h).2]
def mkYE (A:Nat→Option Nat):(l:List (Nat×Int))→(∀ p∈l,A p.1≠none∧0≤p.2∧p.2≤1000)→List (YE A)
 | [],_=>[]
 | p::l,h=>⟨p.1,p.2,(h p List.mem_cons_self).1,(h p List.mem_cons_self).2⟩::mkYE A l fun q hq=>h q (List.mem_cons_of_mem _ hq)
theorem mkYE_pr (A:Nat→Option Nat):∀ (l:List (Nat×Int)) (h:∀ p∈l,A p.1≠none∧0≤p.2∧p.2≤1000),(mkYE A l h).map YE.pr=l
 | [],_=>rfl
 | p::l,h=>by
  unfold mkYE
  rw [List.map_cons,mkYE_pr A l]
  rfl
def pre1 (d:Int):Fo→List (Nat×Int)
 | .nil=>[]
 | .nd i _ k n=>(i,d)::(pre1 (d+1) k++pre1 d n)
theorem pre1_len:∀ (F:Fo) (d:Int),(pre1 d F).length=F.ids.length
 | .nil,d=>rfl
 | .nd i t k n,d=>by simp [pre1,Fo.ids,pre1_len k,pre1_len n]
theorem pre1_mem:∀ {F:Fo} {d:Int} {p:Nat×Int},p∈pre1 d F→p.1∈F.ids∧d≤p.2∧p.2 < d+F.ids.length
 | .nil,d,p,h=>by cases h
 | .nd i t k n,d,p,h=>by
  simp only [pre1,List.mem_cons,List.mem_append] at h
  simp only [Fo.ids,List.mem_cons,List.mem_append,List.length_cons,List.length_append]
  rcases h with rfl|h|h
  ·exact ⟨Or.inl rfl,by simp,by simp;omega⟩
  ·obtain ⟨h1,h2,h3⟩:=pre1_mem h
   exact ⟨Or.inr (Or.inl h1),by omega,by omega⟩
  ·obtain ⟨h1,h2,h3⟩:=pre1_mem h
   exact ⟨Or.inr (Or.inr h1),by omega,by omega⟩
def kf (x:Nat):Fo→Fo
 | .nil=>.nil
 | .nd j _ k n=>if j=x then k else kf x n
theorem kf_spec {h:Nat→Nd} {x:Nat}:∀ {F:Fo} {up:Nat},Rep h up F→F.ids.Nodup→x∈F.tops→Rep h x (kf x F)∧(h x).first=(kf x F).hd∧(∀ y∈(kf x F).ids,y∈F.ids)∧(kf x F).ids.length < F.ids.length∧(kf x F).ids.Nodup
 | .nil,_,_,_,hx=>by cases hx
 | .nd j t k n,up,⟨h1,h2,h3,h4⟩,hn,hx=>by
  obtain ⟨n1,n2,n3,n4,n5⟩:=nodup_nd hn
  unfold kf
  by_cases e:j=x
  ·subst e
   rw [if_pos rfl]
   exact ⟨h3,by rw [h2],fun y hy=>by simp [Fo.ids,hy],by simp [Fo.ids];omega,n3⟩
  ·rw [if_neg e]
   have hx':x∈n.tops:=by
    simp only [Fo.tops,List.mem_cons] at hx
    exact hx.resolve_left fun e'=>e e'.symm
   obtain ⟨g1,g2,g3,g4,g5⟩:=kf_spec h4 n4 hx'
   exact ⟨g1,g2,fun y hy=>by simp [Fo.ids,g3 y hy],by simp [Fo.ids];omega,g5⟩
theorem flatMap_congr' {α β:Type} {f g:α→List β}:∀ {l:List α},(∀ x∈l,f x=g x)→l.flatMap f=l.flatMap g
 | [],_=>rfl
 | x::l,h=>by rw [List.flatMap_cons,List.flatMap_cons,h x List.mem_cons_self,flatMap_congr' fun y hy=>h y (List.mem_cons_of_mem _ hy)]
theorem pre1_kids:∀ (F:Fo) (d:Int),F.ids.Nodup→pre1 d F=F.tops.flatMap fun x=>(x,d)::pre1 (d+1) (kf x F)
 | .nil,d,_=>rfl
 | .nd j t k n,d,hn=>by
  obtain ⟨n1,n2,n3,n4,n5⟩:=nodup_nd hn
  simp only [Fo.tops,List.flatMap_cons,pre1]
  rw [pre1_kids n d n4]
  have e1:kf j (Fo.nd j t k n)=k:=by unfold kf;exact if_pos rfl
  rw [e1,List.cons_append]
  congr 2
  refine flatMap_congr' fun x hx=>?_
  have e2:kf x (Fo.nd j t k n)=kf x n:=by
   have:j≠x:=fun e=>n2 (tops_ids (e ▸ hx))
   show (if j=x then k else kf x n)=kf x n
   exact if_neg this
  rw [e2]
theorem map_flatMap' {α β γ:Type} (f:α→List β) (g:β→γ):∀ (l:List α),(l.flatMap f).map g=l.flatMap fun x=>(f x).map g
 | []=>rfl
 | x::l=>by rw [List.flatMap_cons,List.flatMap_cons,List.map_append,map_flatMap' f g l]
theorem flatMap_map' {α β γ:Type} (f:β→List γ) (g:α→β):∀ (l:List α),(l.map g).flatMap f=l.flatMap fun x=>f (g x)
 | []=>rfl
 | x::l=>by rw [List.map_cons,List.flatMap_cons,List.flatMap_cons,flatMap_map' f g l]
theorem flatMap_len {α β:Type} (f:α→List β) (c:Nat):∀ (l:List α),(∀ x∈l,(f x).length≤c)→(l.flatMap f).length≤c * l.length
 | [],_=>by simp
 | x::l,h=>by
  rw [List.flatMap_cons,List.length_append,List.length_cons,Nat.mul_add]
  have h1:=h x List.mem_cons_self
  have h2:=flatMap_len f c l fun y hy=>h y (List.mem_cons_of_mem _ hy)
  omega
theorem tops_len:∀ (F:Fo),F.tops.length≤F.ids.length
 | .nil=>Nat.le_refl _
 | .nd i t k n=>by
  have:=tops_len n
  simp only [Fo.tops,Fo.ids,List.length_cons,List.length_append]
  omega
attribute [local go_sem] Oper.semAt_some

def KB (V W:World):Prop:=∀ (b:Nat) (t:TypeId) (v:Value),(t=3∨t=194∨t=4∨t=162∨t=121)→Boxed V b t v→Boxed W b t v
theorem KB.refl (W:World):KB W W:=fun _ _ _ _ h=>h
theorem KB.trans {U V W:World} (h:KB U V) (k:KB V W):KB U W:=fun b t v ht hb=>k b t v ht (h b t v ht hb)
theorem KB.grown {V W:World} {row:Option Nat} (hg:V.grownBy W row) (hr:∀ r,row=some r→∃ o:Obj,V.heap[r]?=some o∧o.isCells=false):KB V W:=fun b t v _ hb=>hb.kept hg fun e=>by
 obtain ⟨o,h1,h2⟩:=hr b e.symm
 have h3:V.heap[b]?=some (.cells #[v] t (0,0)):=hb
 rw [h3] at h1
 rw [←sj_ h1] at h2
 cases h2
theorem KB.alloc {U V:World} (h:KB U V) (o:Obj):KB U (V.alloc o):=h.trans (KB.grown (World.grownBy_alloc V o none) (fun r e=>by cases e))
structure Stp (w0:World) (B0:Nat) (V W:World):Prop where
 below:Below w0.heap.size V W
 from_:KeepsFrom B0 V W
 kb:KB V W
theorem Stp.refl (w0:World) (B0:Nat) (W:World):Stp w0 B0 W W:=⟨Below.refl _ _,KeepsFrom.refl _ _,KB.refl _⟩
theorem Stp.trans {w0:World} {B0:Nat} {U V W:World} (h:Stp w0 B0 U V) (k:Stp w0 B0 V W):Stp w0 B0 U W:=⟨h.below.trans k.below,h.from_.trans k.from_,h.kb.trans k.kb⟩
theorem Stp.alloc {w0:World} {B0:Nat} {U V:World} (h:Stp w0 B0 U V) (hB:w0.heap.size≤V.heap.size) (o:Obj):Stp w0 B0 U (V.alloc o):=⟨h.below.alloc hB _,h.from_.trans ((KeepsOthers.alloc _ _).from _),h.kb.alloc o⟩
theorem ownFrom_stp {β:Type} {B B0:Nat} {w0 U:World} (h1:w0.heap.size≤U.heap.size) (h2:U.heap.size≤B):OwnFrom B (fun (_:β) W=>Stp w0 B0 U W):=fun s V W row hs hg hr =>
 ⟨ownFrom_below (n₀:=w0.heap.size) (β:=Unit) h1 (Nat.le_trans h1 h2) () V W row hs.below hg hr,ownFrom_keepsFrom (β:=Unit) (B:=B0) h2 () V W row hs.from_ hg hr,hs.kb.trans (KB.grown hg fun r e=>(hr r e).2)⟩
def WalkI {A:Nat→Option Nat} {Q:Nat→Prop} (J:List (YE A)→World→Prop) (pre:List (YE A)) (ys:KA Q→List (YE A)) (w0 W0:World) (B0 g l:Nat) (d:Int) (ks:List (KA Q)) (W:World):Prop :=
 J (pre++ks.flatMap ys) W∧(Boxed W g 3 (.int .i64 d)∧Boxed W (g+1) 194 (.func (.yield l) #[] #[])∧Boxed W (g+1+1) 4 (.bool false))∧Stp w0 B0 W0 W
theorem walkI_own {A:Nat→Option Nat} {Q:Nat→Prop} {J:List (YE A)→World→Prop} {pre:List (YE A)} {ys:KA Q→List (YE A)} {w0 W0:World} {B0 g l B:Nat} {d:Int} (hJ:Stb B0 J) (hB:B0≤B) (h1:w0.heap.size≤W0.heap.size) (h2:W0.heap.size≤B) :
    OwnFrom B (WalkI (Q:=Q) J pre ys w0 W0 B0 g l d):=fun s V W row hs hg hr =>
  ⟨hJ.own hB (pre++s.flatMap ys) V W row hs.1 hg hr,
   ⟨boxed_own g _ (fun (_:Unit)=>_) () V W row hs.2.1.1 hg (fun r e=>(hr r e).2),boxed_own (g+1) _ (fun (_:Unit)=>_) () V W row hs.2.1.2.1 hg (fun r e=>(hr r e).2),boxed_own (g+1+1) _ (fun (_:Unit)=>_) () V W row hs.2.1.2.2 hg (fun r e=>(hr r e).2)⟩,
   ownFrom_stp (β:=Unit) h1 h2 () V W row hs.2.2 hg hr⟩
theorem KB.far {U V:World} (h:KB U V) {g:Nat} (hg:U.heap.size≤g) (v:Value):KB U (V.setCell ⟨g,0,none⟩ v):=fun b t u ht hb=>(h b t u ht hb).other (fun e=>by have:=hb.lt;omega) v
theorem KeepsFrom.far {B:Nat} {U V:World} (h:KeepsFrom B U V) {D:Nat} (hD:U.heap.size≤D) {o:Obj} (hK:V.heap[D]?=some o) (ho:o.isCells=false) (o':Obj):KeepsFrom B U (V.putObj D o') :=
 ownFrom_keepsFrom (β:=Unit) (B':=U.heap.size) (Nat.le_refl _) () V _ (some D) h (grownBy_putObj' V D o') (fun r e=>by cases e;exact ⟨hD,o,hK,ho⟩)
def WalkPost {A:Nat→Option Nat} (J:List (YE A)→World→Prop) (w0:World) (B0:Nat) (l:List (YE A)) (W:World) (e:Ending) (W':World):Prop:=e=.returned (.bool true)∧J l W'∧Stp w0 B0 W W'
theorem wlk_in_ (F:Fence) (hd:F.depth=none) (h81:F.fn 153) (h56:F.fn 156) (h76:F.fn 157) (hro:F.round=none) (l N B0:Nat) {w0:World} {n0 Fb:Nat} {A:Nat→Option Nat} {h:Nat→Nd} (m:Mem w0 n0 Fb A h)
  (J:List (YE A)→World→Prop) (hJ:Stb B0 J)
  (hY:∀ (q:Nat) (pre:List (YE A)) (x:YE A) (W:World),J pre W→Below w0.heap.size w0 W→pre.length < N→YieldAt F q Tryd.prog l #[.pointer (pa (A x.val)),.int .i64 x.dep] W (WalkPost J w0 B0 (pre++[x]) W)) :
  ∀ (s:Nat) (k:Fo),k.ids.length < s→∀ (q i:Nat) (d:Int) (es pre:List (YE A)) (W:World),Rep h i k→k.ids.Nodup→(∀ x∈k.ids,A x≠none)→A i≠none→(h i).first=k.hd→es.map YE.pr=(i,d)::pre1 (d+1) k→J pre W→Below w0.heap.size w0 W→B0≤W.heap.size →
   pre.length+1400 * (k.ids.length+1)≤N→k.ids.length≤36→0≤d→d+k.ids.length≤900 →
   CallsIn F q Tryd.prog 153 #[.pointer (pa (A i)),.int .i64 d,.func (.yield l) #[] #[]] W (WalkPost J w0 B0 (pre++es) W):=by
 intro s
 induction s with
 | zero=>intro k hk;omega
 | succ s ih =>
  intro k hks q i d es pre W hR hnd hAk hAi hfirst hes hJ0 hB hB0 hN h36 hd0 hd1
  obtain ⟨b,hb⟩:=Option.ne_none_iff_exists'.1 hAi
  -- what is handed on
  obtain ⟨e0,rest,rfl⟩:∃ e0 rest,es=e0::rest:=by
   cases es with
   | nil=>cases hes
   | cons e0 rest=>exact ⟨e0,rest,rfl⟩
  rw [List.map_cons] at hes
  obtain ⟨he0,hrest⟩:=List.cons.inj hes
  have hv:e0.val=i:=congrArg Prod.fst he0
  have hdp:e0.dep=d:=congrArg Prod.snd he0
  obtain ⟨ks,hks2⟩:=attach_val (Q:=fun y=>y∈k.tops) (l:=k.tops) fun x hx=>hx
  have hok:∀ x:KA (fun y=>y∈k.tops),∀ p∈(x.val,d+1)::pre1 (d+1+1) (kf x.val k),A p.1≠none∧0≤p.2∧p.2≤1000:=fun x p hp=>by
   obtain ⟨g1,g2,g3,g4,g5⟩:=kf_spec hR hnd x.ok
   rcases List.mem_cons.1 hp with rfl|hp
   ·exact ⟨hAk _ (tops_ids x.ok),by simp;omega,by simp;omega⟩
   ·obtain ⟨a1,a2,a3⟩:=pre1_mem hp
    exact ⟨hAk _ (g3 _ a1),by omega,by omega⟩
  obtain ⟨ys,hys⟩:∃ ys:KA (fun y=>y∈k.tops)→List (YE A),∀ x,(ys x).map YE.pr=(x.val,d+1)::pre1 (d+1+1) (kf x.val k):=⟨fun x=>mkYE A _ (hok x),fun x=>mkYE_pr A _ (hok x)⟩
  have hrest2:rest=ks.flatMap ys:=by
   apply YE.inj_map
   rw [hrest,map_flatMap',pre1_kids k (d+1) hnd]
   refine ((congrArg (fun (z:List Nat)=>z.flatMap fun x=>(x,d+1)::pre1 (d+1+1) (kf x k)) hks2).symm.trans (flatMap_map' _ KA.val ks)).trans ?_
   exact flatMap_congr' fun x _=>(hys x).symm
  have hyl:∀ x,(ys x).length≤36:=fun x=>by
   have h1:=congrArg List.length (hys x)
   have g4:=(kf_spec hR hnd x.ok).2.2.2.1
   rw [List.length_map,List.length_cons,pre1_len] at h1
   omega
  have hkl:ks.length≤36:=by
   have h1:=congrArg List.length hks2
   rw [List.length_map] at h1
   have:=tops_len k
   omega
  subst hrest2
  clear hes hrest hok he0
  have hsz:=hB.size
  -- the boxes
  obtain ⟨W3,hW3⟩:∃ W3,W3=((W.alloc (.cells #[.int .i64 d] 3)).alloc (.cells #[.func (.yield l) #[] #[]] 194)).alloc (.cells #[.bool false] 4):=⟨_,rfl⟩
  have b1:=((Boxed.new W 3 (.int .i64 d)).alloc (.cells #[.func (.yield l) #[] #[]] 194)).alloc (.cells #[.bool false] 4)
  have b2:=(Boxed.new (W.alloc (.cells #[.int .i64 d] 3)) 194 (.func (.yield l) #[] #[])).alloc (.cells #[.bool false] 4)
  have b3:=Boxed.new ((W.alloc (.cells #[.int .i64 d] 3)).alloc (.cells #[.func (.yield l) #[] #[]] 194)) 4 (.bool false)
  simp only [World.size_alloc] at b2 b3
  have hJ3:J pre W3:=by rw [hW3];exact hJ.alloc _ (hJ.alloc _ (hJ.alloc _ hJ0))
  have hS3:Stp w0 B0 W W3:=by rw [hW3];exact (((Stp.refl w0 B0 W).alloc hsz _).alloc (by simp;omega) _).alloc (by simp;omega) _
  have hz3:W3.heap.size=W.heap.size+3:=by rw [hW3];simp
  rw [←hW3] at b1 b2 b3
  obtain ⟨fn,tmps,assign,body,hy,hRd⟩:=hY 7 pre e0 W3 hJ3 (hB.trans hS3.below) (by omega)
  rw [hv,hdp,hb,pa_some] at hy
  have cD:=b1.cell
  have cY:=b2.cell
  have M:=a_ m
  have HB:=a_ hB
  have HBi:=a_ hb
  have HS3:=a_ hS3
  refine callsIn_any hd (m:=8) ?_
  rw [hb,pa_some]
  refine callsIn_of_wp_marks Tryd.func153 rfl h81 ?_ hro
  simp only [Tryd.ntmps153,List.size_toArray,List.length_cons,List.length_nil,Nat.reduceAdd,Nat.reduceSub,Array.replicate_succ,Array.replicate_zero,List.push_toArray,List.append_toArray,List.nil_append,List.cons_append]
  rw [hW3] at hy cD cY
  gi_wp2
  rw [←hW3]
  refine hRd.mono ?_
  clear hRd hy cD cY hJ3 hS3
  rintro e W4 ⟨rfl,hJ4,hS4⟩
  have HJ4:=a_ hJ4
  have HS4:=a_ (HS3.out.trans hS4)
  have HK4:=a_ hS4.kb
  have HZ4:=a_ hS4.below.size
  clear hJ4 hS4
  gi_wp2_with (gi_at_call 156;refine (kids_in F _ h56 hro _ _).mono ?_;rintro e w' ⟨rfl,rfl⟩)
  have hS4:=HS4.out
  have hz4:W3.heap.size≤W4.heap.size:=HZ4.out
  obtain ⟨W5,hW5⟩:∃ W5,W5=W4.alloc (.cells #[.pointer (some ⟨b,0,none⟩)] 162):=⟨_,rfl⟩
  have hz5:W5.heap.size=W4.heap.size+1:=by rw [hW5];simp
  have hB05:B0≤W5.heap.size:=by omega
  have hbox:W5.cell? ⟨W4.heap.size,0,none⟩=some (.pointer (some ⟨b,0,none⟩)):=by rw [hW5];exact (cell_new_f W4 _ _).1
  have hS45:Stp w0 B0 W4 W5:=by rw [hW5];exact (Stp.refl w0 B0 W4).alloc (by omega) _
  have hB5:Below w0.heap.size w0 W5:=(HB.out.trans hS4.below).trans hS45.below
  have M5:=M.out.below hB5
  have c3:=M5.c3 HBi.out
  rw [hfirst] at c3
  have hL:NList A w0.heap.size W5 (pa (A k.hd)) (ks.map KA.val):=by rw [hks2];exact (nlist_of M.out hR hAk).below hB5
  have hbl:b < w0.heap.size:=M.out.lt HBi.out
  have hI0:WalkI J (pre++[e0]) ys w0 W5 B0 W.heap.size l d [] W5:=⟨by rw [List.flatMap_nil,List.append_nil,hW5];exact hJ.alloc _ HJ4.out,⟨hS45.kb _ _ _ (Or.inl rfl) (HK4.out _ _ _ (Or.inl rfl) b1),hS45.kb _ _ _ (Or.inr (Or.inl rfl)) (HK4.out _ _ _ (Or.inr (Or.inl rfl)) b2),hS45.kb _ _ _ (Or.inr (Or.inr (Or.inl rfl))) (HK4.out _ _ _ (Or.inr (Or.inr (Or.inl rfl))) b3)⟩,Stp.refl _ _ _⟩
  rw [←hW5]
  have HB5:=a_ hB5
  have HS45:=a_ hS45
  clear b1 b2 b3 hB5 hS45
  refine wpIn_rangeFunc_ownG hro (show 1≤8 by omega) (gf:=157) (lb:=#[.pointer (some ⟨W4.heap.size,0,none⟩)]) rfl h76 (enters_of Tryd.func157 (by kernel_rfl) rfl)
   (kids_stops F 7 h76 hro (by omega) W4.heap.size w0.heap.size b (fun y=>y∈k.tops) A (pa (A k.hd)) ks W5 (by omega) (by omega) (by omega) hbox c3 hL) belowK_t (belowK_b (by omega)) (Below.refl _ _) (fun _=>by rfl)
   (WalkI J (pre++[e0]) ys w0 W5 B0 W.heap.size l d) (fun _ _ _=>False) (walkI_own hJ (by omega) (by omega) (by omega)) (fun _ _ _ _ _ hs _ _=>hs) hI0
   (fun x=>{ tmps:=#[.pointer (some ⟨b,0,none⟩),.int .i64 d,.func (.yield l) #[] #[],undef,.pointer (some ⟨W.heap.size,0,none⟩),.pointer (some ⟨W.heap.size+1,0,none⟩),.pointer (some ⟨W.heap.size+1+1,0,none⟩),.pointer (pa (A x.val)),.func (.yield l) #[] #[],.pointer (some ⟨b,0,none⟩),.int .i64 d,.bool true,.bool false,.pointer (some ⟨b,0,none⟩),.func (.func 157) #[] #[.pointer (some ⟨W4.heap.size,0,none⟩)],.pointer (pa (A x.val)),undef,undef,undef,undef,undef,undef],defers:=[] }) ?assign ?body ?done ?stop
  case assign =>
   intro l2 x V K hK
   gi_wp2
   exact hK
  case body =>
   rintro l2 pre' x V hI hlt
   obtain ⟨hJv,⟨v1,v2,v3⟩,hSv⟩:=hI
   obtain ⟨g1,g2,g3,g4,g5⟩:=kf_spec hR hnd x.ok
   have hfl:=flatMap_len ys 36 pre' fun x _=>hyl x
   have IH:=a_ (ih (kf x.val k) (by omega) (8 - 1 - 1 - 1) x.val (d+1) (ys x) (pre++[e0]++pre'.flatMap ys) V g1 g5 (fun y hy=>hAk y (g3 y hy)) (hAk _ (tops_ids x.ok)) g2 (hys x) hJv (HB5.out.trans hSv.below) (by have:=hSv.below.size;omega)
    (by simp only [List.length_append,List.length_cons,List.length_nil];omega) (by omega) (by omega) (by omega))
   have p1:=v1.cell
   have p2:=v2.cell
   have HV:=a_ (And.intro v1 (And.intro v2 v3))
   have HSv:=a_ hSv
   clear hJv v1 v2 v3 hSv g1 g2 g3 g4 g5 hfl hlt hI0 hL c3 hbox M5 hz4 hz5 hkl hyl hys hks2 hv hdp hN h36
   have hd0':0≤d:=hd0
   have hd9:d≤900:=by omega
   gi_wp2_with (gi_at_call 153;refine (CallsIn.inRound l2 IH.out).mono ?_;clear IH;rintro e W6 ⟨rfl,hJ6,hS6⟩;have HJ6:=a_ hJ6;have HS6:=a_ hS6;clear hJ6 hS6)
   have h6:=HS6.out
   obtain ⟨v1,v2,v3⟩:=HV.out
   have hJ6:=HJ6.out
   refine ⟨KeepsFrom.mono h6.from_ hB05,h6.below,⟨?_,⟨h6.kb _ _ _ (Or.inl rfl) v1,h6.kb _ _ _ (Or.inr (Or.inl rfl)) v2,h6.kb _ _ _ (Or.inr (Or.inr (Or.inl rfl))) v3⟩,HSv.out.trans h6⟩⟩
   rw [List.flatMap_append,List.flatMap_cons,List.flatMap_nil,List.append_nil,←List.append_assoc]
   exact hJ6
  case done =>
   rintro D zs V hD rfl ⟨hJv,⟨v1,v2,v3⟩,hSv⟩ hK
   have p3:=v3.cell
   have f3:=v3.frozen
   have HV3:=a_ v3
   have HSv:=a_ hSv
   have HJv:=a_ hJv
   clear v1 v2 v3 hSv hJv hI0 hL c3 hbox M5
   gi_wp2
   have hK':=(KeepsOthers.setCell V ⟨W.heap.size+1+1,0,none⟩ (.bool true)).same D _ hK rfl
   refine ⟨by simp,.inl ⟨_,_,rfl,run_takeDeferred hK',?_⟩⟩
   have hc5:=cell_kept (World.cell?_setCell_same' V ⟨W.heap.size+1+1,0,none⟩ (.bool true) (by rw [p3];rfl)) (grownBy_putObj' _ D (.deferred none)) (fun r e=>by cases e;exact ⟨_,hK',rfl⟩)
   have hSW:Stp w0 B0 W V:=(hS4.trans HS45.out).trans HSv.out
   refine ⟨.bool true,?_,rfl,?_,?_⟩
   ·simp [results,Tryd.f153,go_sem,hc5]
   ·refine hJ.put _ ?_ hK' rfl (by omega)
    have hb:=hJ.box (.bool true) HJv.out HV3.out (by omega)
    rw [List.append_assoc] at hb
    exact hb
   ·refine ⟨?_,?_,?_⟩
    ·exact (hSW.below.setCell (p:=⟨W.heap.size+1+1,0,none⟩) (by simp;omega) _).trans (belowK_b (w:=W) hsz _ D _ _ (by omega) hK' rfl rfl)
    ·exact KeepsFrom.far (hSW.from_.trans ((KeepsOthers.setCell _ _ _).from _)) (by omega) hK' rfl _
    ·exact (hSW.kb.far (by omega) _).trans (KB.grown (grownBy_putObj' _ D _) (fun r e=>by cases e;exact ⟨_,hK',rfl⟩))
  case stop =>
   rintro D c pre' V _ _ hf _
   exact hf.elim
attribute [local go_sem] Oper.semAt_some

theorem roots_kf {h:Nat→Nd} {r:Nat}:∀ {G:Fo},RepTop h G→G.ids.Nodup→r∈G.tops→Rep h r (kf r G)∧(h r).first=(kf r G).hd∧(∀ y∈(kf r G).ids,y∈G.ids)∧(kf r G).ids.length < G.ids.length∧(kf r G).ids.Nodup
 | .nil,_,_,hx=>by cases hx
 | .nd j t k n,⟨h1,h2,h3,h4⟩,hn,hx=>by
  obtain ⟨n1,n2,n3,n4,n5⟩:=nodup_nd hn
  unfold kf
  by_cases e:j=r
  ·subst e
   rw [if_pos rfl]
   exact ⟨h3,by rw [h2],fun y hy=>by simp [Fo.ids,hy],by simp [Fo.ids];omega,n3⟩
  ·rw [if_neg e]
   have hx':r∈n.tops:=by
    simp only [Fo.tops,List.mem_cons] at hx
    exact hx.resolve_left fun e'=>e e'.symm
   obtain ⟨g1,g2,g3,g4,g5⟩:=roots_kf h4 n4 hx'
   exact ⟨g1,g2,fun y hy=>by simp [Fo.ids,g3 y hy],by simp [Fo.ids];omega,g5⟩
def ahead_ {α:Type} (part:Nat→List α) (r:Nat):List α:=(List.range' 1 (r - 1)).flatMap part
theorem ahead_succ {α:Type} (part:Nat→List α) (r:Nat) (hr:1≤r):ahead_ part (r+1)=ahead_ part r++part r:=by
 unfold ahead_
 rw [show r+1 - 1=(r - 1)+1 by omega,List.range'_concat,List.flatMap_append]
 simp only [List.flatMap_cons,List.flatMap_nil,List.append_nil,Nat.one_mul]
 rw [show 1+(r - 1)=r by omega]
def AllI {A:Nat→Option Nat} (J:List (YE A)→World→Prop) (part:Nat→List (YE A)) (w0:World) (B0:Nat) (W:World) (v:Value) (V:World):Prop :=
 ∃ r:Nat,1≤r∧r≤4∧v=.int .i64 (r:Int)∧J (ahead_ part r) V∧Stp w0 B0 W V
def AllPost {A:Nat→Option Nat} (J:List (YE A)→World→Prop) (w0:World) (B0:Nat) (l:List (YE A)) (W:World) (e:Ending) (W':World):Prop:=(∃ v,e=.returned v)∧J l W'∧Stp w0 B0 W W'
theorem all1_in (F:Fence) (hd:F.depth=none) (h80:F.fn 152) (h81:F.fn 153) (h56:F.fn 156) (h76:F.fn 157) (hro:F.round=none) (l N B0 q:Nat) {w0:World} {n0 Fb:Nat} {A:Nat→Option Nat} {h:Nat→Nd} (m:Mem w0 n0 Fb A h)
  {G:Fo} (hG:RepTop h G) (hnd:G.ids.Nodup) (hroots:G.tops=[1,2,3]) (hA:∀ x∈G.ids,A x≠none) (h36:G.ids.length≤36)
  (J:List (YE A)→World→Prop) (hJ:Stb B0 J)
  (hY:∀ (q:Nat) (pre:List (YE A)) (x:YE A) (W:World),J pre W→Below w0.heap.size w0 W→pre.length < N→YieldAt F q Tryd.prog l #[.pointer (pa (A x.val)),.int .i64 x.dep] W (WalkPost J w0 B0 (pre++[x]) W))
  (hN:60000≤N) (es:List (YE A)) (hes:es.map YE.pr=pre1 0 G) (Bn:Nat) (W:World) (hBn:Boxed W Bn 121 (.pointer (some ⟨Fb,0,none⟩))) (hB:Below w0.heap.size w0 W) (hB0:B0≤W.heap.size) (hJ0:J [] W) :
  CallsIn F q Tryd.prog 152 #[.func (.yield l) #[] #[],.pointer (some ⟨Bn,0,none⟩)] W (AllPost J w0 B0 es W):=by
 -- the roots' parts
 have hrt:∀ r:Nat,1≤r→r≤3→r∈G.tops:=fun r h1 h2=>by rw [hroots];simp;omega
 obtain ⟨part,hpart⟩:∃ part:Nat→List (YE A),∀ r,1≤r→r≤3→(part r).map YE.pr=(r,0)::pre1 (0+1) (kf r G):=by
  have hok:∀ r:Nat,1≤r∧r≤3→∀ p∈(r,(0:Int))::pre1 (0+1) (kf r G),A p.1≠none∧0≤p.2∧p.2≤1000:=fun r hr p hp=>by
   obtain ⟨g1,g2,g3,g4,g5⟩:=roots_kf hG hnd (hrt r hr.1 hr.2)
   rcases List.mem_cons.1 hp with rfl|hp
   ·exact ⟨hA _ (tops_ids (hrt r hr.1 hr.2)),by simp,by simp⟩
   ·obtain ⟨a1,a2,a3⟩:=pre1_mem hp
    exact ⟨hA _ (g3 _ a1),by omega,by omega⟩
  refine ⟨fun r=>if hr:1≤r∧r≤3 then mkYE A _ (hok r hr) else [],fun r h1 h2=>?_⟩
  have hr:1≤r∧r≤3:=⟨h1,h2⟩
  simp only [dif_pos hr]
  exact mkYE_pr A _ (hok r hr)
 have hes2:es=ahead_ part 4:=by
  apply YE.inj_map
  rw [hes,pre1_kids G 0 hnd,hroots]
  show _=List.map YE.pr ([1,2,3].flatMap part)
  rw [map_flatMap']
  refine flatMap_congr' fun x hx=>?_
  have:1≤x∧x≤3:=by simp at hx;omega
  exact (hpart x this.1 this.2).symm
 have hpl:∀ r,1≤r→r≤3→(part r).length≤36:=fun r h1 h2=>by
  have h3:=congrArg List.length (hpart r h1 h2)
  have h4:=(roots_kf hG hnd (hrt r h1 h2)).2.2.2.1
  rw [List.length_map,List.length_cons,pre1_len] at h3
  omega
 have hal:∀ r,1≤r→r≤4→(ahead_ part r).length≤36 * 3:=fun r h1 h2=>by
  unfold ahead_
  refine Nat.le_trans (flatMap_len part 36 _ fun x hx=>?_) (by rw [List.length_range'];omega)
  have:=List.mem_range'.1 hx
  obtain ⟨i,hi,rfl⟩:=this
  exact hpl _ (by omega) (by omega)
 subst hes2
 have M:=a_ m
 have HB:=a_ hB
 have HBn:=a_ hBn
 have HJ0:=a_ hJ0
 have cB:=hBn.cell
 clear hes hB hBn hJ0
 refine callsIn_any hd (m:=8) ?_
 refine callsIn_of_wp Tryd.func152 rfl h80 ?_ hro
 simp only [Tryd.ntmps152,List.size_toArray,List.length_cons,List.length_nil,Nat.reduceAdd,Nat.reduceSub,Array.replicate_succ,Array.replicate_zero,List.push_toArray,List.append_toArray,List.nil_append,List.cons_append]
 gi_wp2
 gi_loopw [3] (fun v V=>AllI J part w0 B0 W v V) (fun v _=>4 - (intOf v).toNat)
 case atStart=>exact ⟨1,by omega,by omega,rfl,HJ0.out,Stp.refl _ _ _⟩
 case round =>
  obtain ⟨r,hr1,hr4,rfl,hJr,hSr⟩:=hrel
  have cB:=(hSr.kb _ _ _ (Or.inr (Or.inr (Or.inr (Or.inr rfl)))) HBn.out).cell
  by_cases hr3:r≤3
  ·have hd1:decide (r≤3)=true:=dt_ hr3
   have hd2:decide ((r:Int)≤3)=true:=dt_ (by omega)
   have cF:=(M.out.below (HB.out.trans hSr.below)).cF r (by omega)
   obtain ⟨g1,g2,g3,g4,g5⟩:=roots_kf hG hnd (hrt r hr1 hr3)
   have IH:=a_ (wlk_in_ F hd h81 h56 h76 hro l N B0 m J hJ hY 40 (kf r G) (by omega) (8 - 1) r 0 (part r) (ahead_ part r) _ g1 g5 (fun y hy=>hA y (g3 y hy)) (hA _ (tops_ids (hrt r hr1 hr3))) g2 (hpart r hr1 hr3) hJr (HB.out.trans hSr.below) (by have:=hSr.below.size;omega)
    (by have:=hal r hr1 hr4;omega) (by omega) (by omega) (by omega))
   have hi0:0≤(r:Int):=by omega
   have hi37:(r:Int) < 37:=by omega
   have HS:=a_ hSr
   have HR:=a_ (And.intro hr1 hr3)
   have HAS:=a_ (ahead_succ part r hr1)
   clear g1 g2 g3 g4 g5 hJr hSr
   gi_wp2_with (gi_at_call 153;refine (IH.out).mono ?_;clear IH;rintro e W6 ⟨rfl,hJ6,hS6⟩;have HJ6:=a_ hJ6;have HS6:=a_ hS6;clear hJ6 hS6)
   refine ⟨⟨r+1,by have:=HR.out;omega,by have:=HR.out;omega,by simp,by rw [HAS.out];exact HJ6.out,HS.out.trans HS6.out⟩,?_⟩
   have:=HR.out
   simp [intOf]
   omega
  ·have hd1:decide (r≤3)=false:=df_ hr3
   have hd2:decide ((r:Int)≤3)=false:=df_ (by omega)
   obtain rfl:r=4:=by omega
   gi_wp2
   go_end0
   exact ⟨⟨_,rfl⟩,hJr,hSr⟩
theorem Stp.mono {w0 V W:World} {B B':Nat} (h:Stp w0 B V W) (hB:B≤B'):Stp w0 B' V W:=⟨h.below,KeepsFrom.mono h.from_ hB,h.kb⟩
theorem Stb.mono {β:Type} {B B':Nat} {J:β→World→Prop} (h:Stb B J) (hB:B≤B'):Stb B' J:=fun s V W row hs hg hr=>h s V W row hs hg fun r e=>⟨Nat.le_trans hB (hr r e).1,(hr r e).2⟩
attribute [local go_sem] Oper.semAt_some

end Go.Proofs.YtdpklbomhdpimaaDoor.P
namespace Go.Proofs.YtdpklbomhdpimaaDoor.PL
open Go.RowKit Go.Proofs.YtdpklbomhdpimaaDoor.P Go.Proofs.YtdpklbomhdpimaaDoorW.PrintWords Go.Proofs.YtdpklbomhdpimaaDoorW.PrintLast
theorem byte_of {x:Int} (h:(Lit.int .u8 x).wf=true):0≤x∧x≤255:=by
 simp only [Lit.wf,Bool.and_eq_true,decide_eq_true_eq] at h
 exact ⟨h.1,h.2⟩
theorem dent_j1 (b:List Int) (hb:Bytes b) (e:S44) (he:wfE e) (p:Int) (hp:Rd p 10):∃ e':S44,Ev (fun k=>spec_DrawEntryOk.j1 k b p e.f0 e.f1 e.f2.f0 e.f2.f1 e.f2.f2 e.f2.f3 e.f2.f4) (e'.f0,e'.f1,e'.f2.f0,e'.f2.f1,e'.f2.f2,e'.f2.f3,e'.f2.f4)∧wfE e':=by
 obtain ⟨q0,q1,q2,q3,q4,q5,q6⟩:=he
 obtain ⟨r,hr,hR,r0,r1,_⟩:=pick_f b p 12 9 hb hp
 by_cases e0:r=0
 ·obtain ⟨x,hx,hX,x0,x1,_⟩:=pick_f b (p+1) 6 8 hb hR
  refine ⟨⟨wrap64 (x - 1),e.f1,e.f2⟩,?_,wrap_I64 _,q1,q2,q3,q4,q5,q6⟩
  refine Ev.step (fun n=>by simp only [spec_DrawEntryOk.j1];rfl) ?_
  exact Ev.bind hr (ev_pos e0 (Ev.bind hx (evnow _)))
 ·by_cases e1:r=1
  ·obtain ⟨x,hx,hX,x0,x1,_⟩:=pick_f b (p+1) 3 8 hb hR
   have x1:=x1 (by omega)
   have ix:I64 (rd ([0,40,41]:List Int) x):=by
    have:=rd_mem ([0,40,41]:List Int) x x0 (by simpa using x1)
    simp only [List.mem_cons,List.not_mem_nil,or_false] at this
    exact i64_small (by omega) (by omega)
   refine ⟨⟨e.f0,rd ([0,40,41]:List Int) x,e.f2⟩,?_,q0,ix,q2,q3,q4,q5,q6⟩
   refine Ev.step (fun n=>by simp only [spec_DrawEntryOk.j1,Option.bind_some];rfl) ?_
   exact Ev.bind hr (ev_neg e0 (ev_pos e1 (Ev.bind hx (ev_pos x0 (ev_pos (by simpa using x1) (evnow _))))))
  ·refine ⟨e,?_,q0,q1,q2,q3,q4,q5,q6⟩
   refine Ev.step (fun n=>by simp only [spec_DrawEntryOk.j1];rfl) ?_
   exact Ev.bind hr (ev_neg e0 (ev_neg e1 (evnow _)))
theorem dent_j0 (b:List Int) (hb:Bytes b) (e:S44) (he:wfE e) (f:Bool) (p:Int) (hp:Rd p 10):∃ e':S44,Ev (fun k=>spec_DrawEntryOk.j0 k f b p e.f0 e.f1 e.f2.f0 e.f2.f1 e.f2.f2 e.f2.f3 e.f2.f4) (e'.f0,e'.f1,e'.f2.f0,e'.f2.f1,e'.f2.f2,e'.f2.f3,e'.f2.f4)∧wfE e':=by
 cases f with
 | true =>
  obtain ⟨q0,q1,q2⟩:=he
  obtain ⟨e',h1,h2⟩:=dent_j1 b hb ⟨wrap64 (Int.tdiv e.f2.f1 10),e.f1,e.f2⟩ ⟨wrap_I64 _,q1,q2⟩ p hp
  refine ⟨e',?_,h2⟩
  refine Ev.step (fun n=>by simp only [spec_DrawEntryOk.j0];rfl) ?_
  exact ev_pos (by simp) h1
 | false =>
  obtain ⟨e',h1,h2⟩:=dent_j1 b hb e he p hp
  refine ⟨e',?_,h2⟩
  refine Ev.step (fun n=>by simp only [spec_DrawEntryOk.j0];rfl) ?_
  exact ev_neg (by decide) h1
theorem dent_f (code:List Int) (h:∀ x∈code,(Lit.int .u8 x).wf=true):∃ e:S44,Ev (fun k=>spec_DrawEntryOk.f k code) (e.f0,e.f1,e.f2.f0,e.f2.f1,e.f2.f2,e.f2.f3,e.f2.f4)∧wfE e:=by
 obtain ⟨b,hb,hB⟩:=open_f code (fun x hx=>byte_of (h x hx))
 obtain ⟨x,hx,hX,x0,x1,_⟩:=pick_f b 0 3 40 hB ⟨by omega,by omega⟩
 obtain ⟨y,hy,hY,y0,y1,_⟩:=pick_f b (0+1) 9 39 hB hX
 obtain ⟨k,i,u,a,s,p',g1,⟨q1,q2,q3,q4,q5⟩,g3⟩:=op71_f b hB (0+1+1) 20 (hY.less (by omega))
 have he:wfE (⟨wrap64 (1+x),wrap64 (1+y),⟨k,i,u,a,s⟩⟩:S44):=⟨wrap_I64 _,wrap_I64 _,q1,q2,q3,q4,by show s.size≤_;omega⟩
 by_cases e1:k=1
 ·obtain ⟨z,hz,hZ,z0,z1,_⟩:=pick_f b p' 4 19 hB g3
  obtain ⟨e',h1,h2⟩:=dent_j0 b hB ⟨wrap64 (1+x),wrap64 (1+y),⟨k,i,u,a,s⟩⟩ he (decide (z > 0)) (p'+1) (hZ.less (by omega))
  refine ⟨e',?_,h2⟩
  unfold spec_DrawEntryOk.f
  rw [hb]
  simp only [Option.bind_some]
  exact Ev.bind hx (Ev.bind hy (Ev.bind g1 (ev_pos e1 (Ev.bind hz h1))))
 ·obtain ⟨e',h1,h2⟩:=dent_j0 b hB ⟨wrap64 (1+x),wrap64 (1+y),⟨k,i,u,a,s⟩⟩ he false p' (g3.less (by omega))
  refine ⟨e',?_,h2⟩
  unfold spec_DrawEntryOk.f
  rw [hb]
  simp only [Option.bind_some]
  exact Ev.bind hx (Ev.bind hy (Ev.bind g1 (ev_neg e1 h1)))
theorem dadd_j0 (code:List Int) (h:∀ x∈code,(Lit.int .u8 x).wf=true) (b:List Int) (hb:Bytes b) (l:List S44) (hw:wfL l) (hl:l.length≤21) (p:Int) (hp:Rd p 10) (f:Bool) (hf:f=true→0 < l.length):∃ e:S44,Ev (fun k=>spec_DrawLogAdd.j0 k code l f b p) (l,e.f0,e.f1,e.f2.f0,e.f2.f1,e.f2.f2,e.f2.f3,e.f2.f4)∧wfE e:=by
 cases f with
 | true =>
  have h0:=hf rfl
  obtain ⟨x,hx,hX,x0,x1,_⟩:=pick_f b p (l.length:Int) 9 hb hp
  have x1:=x1 (by omega)
  obtain ⟨j,rfl⟩:∃ n:Nat,x=n:=⟨x.toNat,by omega⟩
  have hj:j < l.length:=by omega
  refine ⟨l[j],?_,hw _ (List.getElem_mem hj)⟩
  refine Ev.step (fun n=>by simp only [spec_DrawLogAdd.j0];rfl) ?_
  refine ev_pos (by simp) (Ev.bind hx (ev_pos x0 (ev_pos x1 ?_)))
  simp only [rdE_get l j hj]
  exact evnow _
 | false =>
  obtain ⟨e,he,hE⟩:=dent_f code h
  obtain ⟨x,hx,hX,x0,x1,_⟩:=pick_f b p 6 9 hb hp
  by_cases c0:x > 0
  ·obtain ⟨q0,q1,q2⟩:=hE
   refine ⟨⟨e.f0,wrap64 (cntE l e.f0+1),e.f2⟩,?_,q0,wrap_I64 _,q2⟩
   refine Ev.step (fun n=>by simp only [spec_DrawLogAdd.j0];rfl) ?_
   exact ev_neg (by decide) (Ev.bind he (Ev.bind hx (ev_pos c0 (Ev.bind (seq_f l e.f0 (by omega)) (evnow _)))))
  ·refine ⟨e,?_,hE⟩
   refine Ev.step (fun n=>by simp only [spec_DrawLogAdd.j0];rfl) ?_
   exact ev_neg (by decide) (Ev.bind he (Ev.bind hx (ev_neg c0 (evnow _))))
theorem drawAdd_f (code:List Int) (h:∀ x∈code,(Lit.int .u8 x).wf=true):∃ (l:List S44) (e:S44),Ev (fun k=>spec_DrawLogAdd.f k code) (l,e.f0,e.f1,e.f2.f0,e.f2.f1,e.f2.f2,e.f2.f3,e.f2.f4)∧wfL l∧wfE e∧l.length≤21:=by
 obtain ⟨b,hb,hB⟩:=open_f code (fun x hx=>byte_of (h x hx))
 obtain ⟨l,p,h1,h2,h3,h4⟩:=log72_f b hB 0 30 ⟨by omega,by omega⟩
 by_cases c0:(l.length:Int) > 0
 ·obtain ⟨x,hx,hX,x0,x1,_⟩:=pick_f b p 4 29 hB h4
  obtain ⟨e,he,hE⟩:=dadd_j0 code h b hB l h2 h3 (p+1) (hX.less (by omega)) (x==0) (fun _=>by omega)
  refine ⟨l,e,?_,h2,hE,h3⟩
  unfold spec_DrawLogAdd.f
  rw [hb]
  simp only [Option.bind_some]
  exact Ev.bind h1 (ev_pos c0 (Ev.bind hx he))
 ·obtain ⟨e,he,hE⟩:=dadd_j0 code h b hB l h2 h3 p (h4.less (by omega)) false (fun h=>by cases h)
  refine ⟨l,e,?_,h2,hE,h3⟩
  unfold spec_DrawLogAdd.f
  rw [hb]
  simp only [Option.bind_some]
  exact Ev.bind h1 (ev_neg c0 he)
def eqEn (a b:S44):Bool:=a.f0==b.f0&&(a.f1==b.f1&&(a.f2.f0==b.f2.f0&&(a.f2.f1==b.f2.f1&&(a.f2.f2==b.f2.f2&&(a.f2.f3==b.f2.f3&&(a.f2.f4.toList==b.f2.f4.toList))))))
theorem eqEn_refl (a:S44):eqEn a a=true:=by simp [eqEn]
theorem eqEn_comm (a b:S44):eqEn a b=eqEn b a:=by
 have h:∀ a b:S44,eqEn a b=true→eqEn b a=true:=by
  intro a b h
  unfold eqEn at *
  simp only [Bool.and_eq_true,beq_iff_eq] at *
  obtain ⟨h0,h1,h2,h3,h4,h5,h6⟩:=h
  exact ⟨h0.symm,h1.symm,h2.symm,h3.symm,h4.symm,h5.symm,h6.symm⟩
 exact Bool.eq_iff_iff.2 ⟨h a b,h b a⟩
def hasE (l:List S44) (e:S44):Bool:=l.any fun x=>eqEn x e
theorem hasE_cons (x:S44) (l:List S44) (e:S44):hasE (x::l) e=(eqEn x e || hasE l e):=rfl
theorem hasE_snoc (l:List S44) (e:S44):hasE (l++[e]) e=true:=by
 unfold hasE
 rw [List.any_append]
 simp [eqEn_refl]
theorem has_l0 (l:List S44) (e:S44) (hl:l.length≤1099511627776):∀ n i:Nat,i+n=l.length→Ev (fun k=>spec_l12Has.l0 k l i e.f0 e.f1 e.f2.f0 e.f2.f1 e.f2.f2 e.f2.f3 e.f2.f4) (hasE (l.drop i) e)
 | 0,i,h=>by
  rw [List.drop_eq_nil_of_le (by omega)]
  refine Ev.step (f:=fun _=>some false) (fun k=>?_) (evnow _)
  simp only [spec_l12Has.l0];rw [if_neg (by omega)]
 | n+1,i,h=>by
  have hi:i < l.length:=by omega
  rw [List.drop_eq_getElem_cons hi,hasE_cons]
  refine Ev.step (f:=fun k=>if eqEn l[i] e=true then some true else spec_l12Has.l0 k l ((i+1:Nat):Int) e.f0 e.f1 e.f2.f0 e.f2.f1 e.f2.f2 e.f2.f3 e.f2.f4) (fun k=>?_) ?_
  ·simp only [spec_l12Has.l0]
   rw [if_pos (by omega),if_pos (by omega),rdE_get l i hi,wrapS i (by omega) (by omega)]
   rfl
  ·cases hq:eqEn l[i] e with
   | true=>exact ev_pos rfl (evnow _)
   | false=>exact ev_neg (by decide) (has_l0 l e hl n (i+1) (by omega))
theorem has_f (l:List S44) (e:S44) (hl:l.length≤1099511627776):Ev (fun k=>spec_l12Has.f k l e.f0 e.f1 e.f2.f0 e.f2.f1 e.f2.f2 e.f2.f3 e.f2.f4) (hasE l e):=by
 unfold spec_l12Has.f
 exact has_l0 l e hl l.length 0 (by omega)
theorem ihas_l0 (l:List S44) (e:S44) (hl:l.length≤1099511627776):∀ n i:Nat,i+n=l.length→∃ r:Int,Ev (fun k=>impl_Entry_123.l0 k l (l.length:Int) i e.f0 e.f1 e.f2.f0 e.f2.f1 e.f2.f2 e.f2.f3 e.f2.f4) r∧decide (r≥0)=hasE (l.drop i) e
 | 0,i,h=>by
  rw [List.drop_eq_nil_of_le (by omega)]
  refine ⟨-1,Ev.step (f:=fun _=>some (-1)) (fun k=>?_) (evnow _),rfl⟩
  simp only [impl_Entry_123.l0];rw [if_neg (by omega)]
 | n+1,i,h=>by
  have hi:i < l.length:=by omega
  obtain ⟨r,hr,hd⟩:=ihas_l0 l e hl n (i+1) (by omega)
  rw [List.drop_eq_getElem_cons hi,hasE_cons]
  have st:∀ k,impl_Entry_123.l0 (k+1) l (l.length:Int) i e.f0 e.f1 e.f2.f0 e.f2.f1 e.f2.f2 e.f2.f3 e.f2.f4=if eqEn e l[i]=true then some (i:Int) else impl_Entry_123.l0 k l (l.length:Int) ((i+1:Nat):Int) e.f0 e.f1 e.f2.f0 e.f2.f1 e.f2.f2 e.f2.f3 e.f2.f4:=fun k=>by
   simp only [impl_Entry_123.l0]
   rw [if_pos (by omega),if_pos (by omega),if_pos (by omega),rdE_get l i hi,wrapS i (by omega) (by omega)]
   rfl
  rw [eqEn_comm l[i] e]
  cases hq:eqEn e l[i] with
  | true =>
   rw [hq] at st
   exact ⟨i,Ev.step (f:=fun _=>some (i:Int)) (fun k=>by rw [st k,if_pos rfl]) (evnow _),by simp⟩
  | false =>
   rw [hq] at st
   exact ⟨r,Ev.step (fun k=>by rw [st k,if_neg (by decide)]) hr,by rw [hd,Bool.false_or]⟩
theorem ihas_f (l:List S44) (e:S44) (hl:l.length≤1099511627776):Ev (fun k=>impl_Entry_86.f k l e.f0 e.f1 e.f2.f0 e.f2.f1 e.f2.f2 e.f2.f3 e.f2.f4) (hasE l e):=by
 obtain ⟨r,hr,hd⟩:=ihas_l0 l e hl l.length 0 (by omega)
 have hd:decide (r≥0)=hasE l e:=hd
 unfold impl_Entry_86.f impl_Entry_123.f
 rw [←hd]
 exact Ev.bind hr (evnow _)
def addV (l:List S44) (e:S44):List S44×Int:=if hasE l e=true then (l,0) else if e.f1=cntE l e.f0+1 then (if (l.length:Int)≥40 then (l,-1) else (l++[e],1)) else (l,-1)
theorem add_f (l:List S44) (e:S44) (hl:l.length≤1099511627776):Ev (fun k=>spec_l12Add.f k l e.f0 e.f1 e.f2.f0 e.f2.f1 e.f2.f2 e.f2.f3 e.f2.f4) (addV l e):=by
 have hc:=cntE_le l e.f0
 have w1:wrap64 (cntE l e.f0+1)=cntE l e.f0+1:=wrapS _ hc.1 (by omega)
 unfold spec_l12Add.f addV
 refine Ev.bind (seq_f l e.f0 (by omega)) (Ev.bind (has_f l e hl) ?_)
 rw [w1]
 cases hasE l e with
 | true=>exact ev_pos rfl (evnow _)
 | false =>
  refine ev_neg (by decide) ?_
  rw [if_neg (show ¬ (false=true) by decide)]
  by_cases h1:e.f1=cntE l e.f0+1
  ·refine ev_pos h1 ?_
   rw [if_pos h1]
   by_cases h2:(l.length:Int)≥40
   ·refine ev_pos h2 ?_
    rw [if_pos h2]
    exact evnow _
   ·refine ev_neg h2 ?_
    rw [if_neg h2]
    simp only [Option.bind_some,List.nil_append,List.length_nil,List.length_cons]
    exact ev_pos (by omega) (ev_pos (by omega) (evnow _))
  ·refine ev_neg h1 ?_
   rw [if_neg h1]
   exact evnow _
def logAddV (l:List S44) (e:S44):List S44×Int:=if logB l=true then (if entB e=true then addV l e else ([],-1)) else ([],-1)
theorem entB_who {e:S44} (h:entB e=true):1≤e.f0∧e.f0≤3:=by
 unfold entB at h
 simp only [Bool.and_eq_true,decide_eq_true_eq] at h
 exact h.1.1.1
theorem ilogAdd_f (l:List S44) (e:S44) (hw:wfL l) (he:wfE e):Ev (fun k=>impl_LogAdd.f k l e.f0 e.f1 e.f2.f0 e.f2.f1 e.f2.f2 e.f2.f3 e.f2.f4) (logAddV l e):=by
 have j0t:Ev (fun k=>impl_LogAdd.j0 k l true e.f0 e.f1 e.f2.f0 e.f2.f1 e.f2.f2 e.f2.f3 e.f2.f4) (([]:List S44),(-1:Int)):=Ev.step (f:=fun _=>some (([]:List S44),(-1:Int))) (fun k=>by simp only [impl_LogAdd.j0];rfl) (evnow _)
 unfold impl_LogAdd.f logAddV
 refine Ev.bind (log_f l hw) ?_
 cases hb:logB l with
 | false=>exact ev_neg (by decide) j0t
 | true =>
  have h40:=logB_len hb
  refine ev_pos rfl (Ev.bind (ent_f e he) ?_)
  rw [if_pos rfl]
  cases hE:entB e with
  | false=>exact j0t
  | true =>
   have hwho:=entB_who hE
   have hc:=cntE_le l e.f0
   have w1:wrap64 (cntE l e.f0+1)=cntE l e.f0+1:=wrapS _ hc.1 (by omega)
   have hS:Ev (fun k=>impl_LogSeq.f k l e.f0) (cntE l e.f0):=by
    unfold impl_LogSeq.f
    have:=log_f l hw
    rw [hb] at this
    exact Ev.bind this (ev_pos rfl (ev_pos ⟨by omega,by omega⟩ (evnow _)))
   rw [if_pos rfl]
   refine Ev.step (fun k=>by simp only [impl_LogAdd.j0];rfl) ?_
   refine ev_neg (by decide) ?_
   unfold impl_Entry_85.f addV
   rw [if_pos (by omega)]
   simp only [Option.bind_some]
   refine Ev.bind (ihas_f l e (by omega)) ?_
   cases hasE l e with
   | true=>exact ev_pos rfl (evnow _)
   | false =>
    refine ev_neg (by decide) (Ev.bind hS ?_)
    rw [w1,if_neg (show ¬ (false=true) by decide)]
    by_cases h1:e.f1=cntE l e.f0+1
    ·refine ev_pos h1 ?_
     rw [if_pos h1]
     by_cases h2:(l.length:Int)≥40
     ·refine ev_pos h2 ?_
      rw [if_pos h2]
      exact evnow _
     ·refine ev_neg h2 ?_
      rw [if_neg h2]
      exact ev_pos (by omega) (evnow _)
    ·refine ev_neg h1 ?_
     rw [if_neg h1]
     exact evnow _
theorem addV_one {l:List S44} {e:S44} (h:(addV l e).2=1):(addV l e).1=l++[e]∧hasE l e=false∧e.f1=cntE l e.f0+1∧l.length < 40:=by
 unfold addV at h ⊢
 cases hh:hasE l e with
 | true=>rw [hh,if_pos rfl] at h;exact absurd h (show ¬ ((0:Int)=1) by decide)
 | false =>
  rw [hh,if_neg (show ¬ (false=true) by decide)] at h
  rw [if_neg (show ¬ (false=true) by decide)]
  by_cases h1:e.f1=cntE l e.f0+1
  ·rw [if_pos h1] at h ⊢
   by_cases h2:(l.length:Int)≥40
   ·rw [if_pos h2] at h;exact absurd h (show ¬ ((-1:Int)=1) by decide)
   ·rw [if_neg h2];exact ⟨rfl,rfl,h1,by omega⟩
  ·rw [if_neg h1] at h;exact absurd h (show ¬ ((-1:Int)=1) by decide)
theorem addV_len (l:List S44) (e:S44):(addV l e).1.length≤l.length+1:=by
 unfold addV
 split
 ·exact Nat.le_succ _
 ·split
  ·split
   ·exact Nat.le_succ _
   ·simp
  ·exact Nat.le_succ _
theorem goB_snoc:∀ (l pre:List S44) (e:S44),goB pre l=true→entB e=true→cntE (pre++l) e.f0+1=e.f1→goB pre (l++[e])=true
 | [],pre,e,h,he,hc=>by
  rw [List.append_nil] at hc
  rw [List.nil_append,goB,goB,he,dt_ hc];rfl
 | x::l,pre,e,h,he,hc=>by
  rw [goB,Bool.and_eq_true] at h
  rw [List.cons_append,goB,h.1,Bool.true_and]
  exact goB_snoc l _ e h.2 he (by rw [List.append_assoc];exact hc)
theorem logB_snoc {l:List S44} {e:S44} (hb:logB l=true) (he:entB e=true) (hc:e.f1=cntE l e.f0+1) (hl:l.length < 40):logB (l++[e])=true:=by
 unfold logB at hb ⊢
 rw [Bool.and_eq_true] at hb ⊢
 exact ⟨dt_ (by rw [List.length_append];simp;omega),goB_snoc l [] e hb.2 he (by rw [List.nil_append];omega)⟩
def srvB (l:List S44) (s:Int):Bool:=logB l&&(decide (0≤s)&&decide (s≤(l.length:Int)))
theorem srv_f (l:List S44) (s:Int) (u:Bool) (h:wfL l):Ev (fun k=>impl_ServerOk.f k l s u) (srvB l s):=by
 unfold impl_ServerOk.f srvB
 refine Ev.bind (log_f l h) ?_
 cases logB l with
 | false=>simp only [Bool.false_eq_true,if_false,Bool.false_and];exact evnow _
 | true =>
  simp only [if_true,Bool.true_and]
  by_cases hs:s≥0
  ·have:decide (0≤s)=true:=dt_ hs
   rw [if_pos hs,this,Bool.true_and];exact evnow _
  ·have:decide (0≤s)=false:=df_ hs
   rw [if_neg hs,this,Bool.false_and];exact evnow _
theorem ssrv_f (l:List S44) (s:Int) (u:Bool) (h:wfL l) (hl:l.length≤281474976710656):Ev (fun k=>spec_ServerOk.f k l s u) (srvB l s):=by
 unfold spec_ServerOk.f srvB
 refine Ev.bind (slog_f l h hl) ?_
 cases logB l with
 | false=>simp only [Bool.false_eq_true,if_false,Bool.false_and];exact evnow _
 | true =>
  simp only [if_true,Bool.true_and,in_f,Option.bind_some]
  exact evnow _
theorem srvB_true {l:List S44} {s:Int} (h:srvB l s=true):l.length≤40∧0≤s∧s≤l.length:=by
 unfold srvB at h
 simp only [Bool.and_eq_true,decide_eq_true_eq] at h
 exact ⟨logB_len h.1,h.2.1,h.2.2⟩
def hearV (l:List S44) (s:Int) (u:Bool) (e:S44):List S44×Int×Bool×Bool :=
 if srvB l s=true then (if entB e=true then (if u=true then (if (addV l e).2=1 then ((addV l e).1,s,true,true) else (l,s,true,false)) else (l,s,false,false)) else ([],0,false,false)) else ([],0,false,false)
theorem srvB_log {l:List S44} {s:Int} (h:srvB l s=true):logB l=true:=by
 unfold srvB at h
 rw [Bool.and_eq_true] at h
 exact h.1
theorem ihear_f (l:List S44) (s:Int) (u:Bool) (e:S44) (hw:wfL l) (he:wfE e):Ev (fun k=>impl_ServerHear.f k l s u e.f0 e.f1 e.f2.f0 e.f2.f1 e.f2.f2 e.f2.f3 e.f2.f4) (hearV l s u e):=by
 have hn:=addV_len l e
 unfold impl_ServerHear.f hearV
 refine Ev.bind (srv_f l s u hw) ?_
 cases hs:srvB l s with
 | false=>exact ev_neg (by decide) (evnow _)
 | true =>
  have h40:=(srvB_true hs).1
  refine ev_pos rfl (Ev.bind (ent_f e he) ?_)
  rw [if_pos rfl]
  cases hE:entB e with
  | false=>exact ev_neg (by decide) (evnow _)
  | true =>
   refine ev_pos rfl (ev_pos (by omega) ?_)
   rw [if_pos rfl]
   cases u with
   | false=>exact ev_neg (by decide) (evnow _)
   | true =>
    have hA:=ilogAdd_f l e hw he
    unfold logAddV at hA
    rw [if_pos (srvB_log hs),if_pos hE] at hA
    rw [if_pos rfl]
    refine ev_pos rfl (Ev.bind hA ?_)
    by_cases h1:(addV l e).2=1
    ·refine ev_pos h1 (ev_pos (by omega) ?_)
     rw [if_pos h1]
     exact evnow _
    ·refine ev_neg h1 ?_
     rw [if_neg h1]
     exact evnow _
theorem shear_f (l:List S44) (s:Int) (u:Bool) (e:S44) (hw:wfL l) (he:wfE e) (hl:l.length≤1099511627776):Ev (fun k=>spec_ServerHear.f k l s u e.f0 e.f1 e.f2.f0 e.f2.f1 e.f2.f2 e.f2.f3 e.f2.f4) (hearV l s u e):=by
 have j0t:Ev (fun k=>spec_ServerHear.j0 k true l s u e.f0 e.f1 e.f2.f0 e.f2.f1 e.f2.f2 e.f2.f3 e.f2.f4) (([]:List S44),(0:Int),false,false):=Ev.step (f:=fun _=>some (([]:List S44),(0:Int),false,false)) (fun k=>by simp only [spec_ServerHear.j0];rfl) (evnow _)
 unfold spec_ServerHear.f hearV
 refine Ev.bind (ssrv_f l s u hw (by omega)) ?_
 cases hs:srvB l s with
 | false=>exact ev_neg (by decide) j0t
 | true =>
  have h40:=(srvB_true hs).1
  refine ev_pos rfl (Ev.bind (sent_f e he) ?_)
  rw [if_pos rfl]
  cases hE:entB e with
  | false=>exact j0t
  | true =>
   rw [if_pos rfl]
   refine Ev.step (fun k=>by simp only [spec_ServerHear.j0];rfl) ?_
   refine ev_neg (by decide) ?_
   unfold spec_l13Copy.f spec_l13Hear.f
   simp only [Option.bind_some,List.nil_append,List.length_nil]
   rw [if_pos (by omega)]
   simp only [Option.bind_some]
   refine Ev.bind (a:=(if u=true then (if (addV l e).2=1 then ((addV l e).1,s,true,true) else (l,s,true,false)) else (l,s,false,false))) (Ev.bind (add_f l e hl) ?_) ?_
   ·cases u with
    | false=>exact ev_neg (by decide) (evnow _)
    | true =>
     refine ev_pos rfl ?_
     rw [if_pos rfl]
     by_cases h1:(addV l e).2=1
     ·refine ev_pos h1 ?_;rw [if_pos h1];exact evnow _
     ·refine ev_neg h1 ?_;rw [if_neg h1];exact evnow _
   ·exact evnow _
theorem lp_l0 (l:List S44) (hl:l.length≤1099511627776):∀ (n i:Nat),i+n=l.length→Ev (fun k=>laws_lpLog.l0 k l l i) true
 | 0,i,h=>by
  refine Ev.step (f:=fun _=>some true) (fun k=>?_) (evnow _)
  simp only [laws_lpLog.l0];rw [if_neg (by omega)]
 | n+1,i,h=>by
  refine Ev.step (fun k=>?_) (lp_l0 l hl n (i+1) (by omega))
  simp only [laws_lpLog.l0]
  rw [if_pos (by omega),if_pos (by omega),if_pos (by omega)]
  simp only [BEq.rfl,Bool.not_true,Bool.or_false,Bool.false_eq_true,if_false]
  rw [wrapS i (by omega) (by omega)]
  rfl
theorem lp_f (l:List S44) (hl:l.length≤1099511627776):Ev (fun k=>laws_lpLog.f k l l) true:=by
 unfold laws_lpLog.f
 exact ev_pos rfl (lp_l0 l hl l.length 0 (by omega))
theorem pure_of {f:Nat→Option Bool} (h:Ev f true):∃ k,f k=some true:=by
 obtain ⟨K,hK⟩:=h
 exact ⟨K,hK K (Nat.le_refl K)⟩
theorem lpS_f (v:List S44×Int×Bool×Bool) (hl:v.1.length≤1099511627776):Ev (fun k=>laws_lpServer.f k v.1 v.2.1 v.2.2.1 v.1 v.2.1 v.2.2.1) true:=by
 unfold laws_lpServer.f
 refine Ev.bind (lp_f v.1 hl) (ev_pos rfl (ev_pos rfl ?_))
 rw [BEq.rfl]
 exact evnow _
theorem hearV_len (l:List S44) (s:Int) (u:Bool) (e:S44):(hearV l s u e).1.length≤l.length+1:=by
 have:=addV_len l e
 unfold hearV
 split
 ·split
  ·split
   ·split
    ·exact this
    ·exact Nat.le_succ _
   ·exact Nat.le_succ _
  ·simp
 ·simp
theorem drawHear_f (code:List Int) (h:∀ x∈code,(Lit.int .u8 x).wf=true):∃ (l:List S44) (s:Int) (u:Bool) (e:S44),Ev (fun k=>spec_DrawServerHear.f k code) (l,s,u,e.f0,e.f1,e.f2.f0,e.f2.f1,e.f2.f2,e.f2.f3,e.f2.f4)∧wfL l∧wfE e∧l.length≤21∧0≤s∧s≤22:=by
 obtain ⟨b,hb,hB⟩:=open_f code (fun x hx=>byte_of (h x hx))
 obtain ⟨l1,s1,u,p,h1,h2,h3,h4,h5,h6⟩:=server72_f b hB 0 30 ⟨by omega,by omega⟩
 obtain ⟨l2,e,g1,g2,g3,g4⟩:=drawAdd_f code h
 obtain ⟨x,hx,hX,x0,x1,_⟩:=pick_f b p 3 29 hB h6
 have wl:wrap64 ((l2.length:Int)+1)=l2.length+1:=wrap_id _ (by omega) (by omega)
 by_cases c0:x > 0
 ·obtain ⟨y,hy,hY,y0,y1,_⟩:=pick_f b (p+1) (wrap64 ((l2.length:Int)+1)) 28 hB hX
  have y1:=y1 (by omega)
  refine ⟨l2,y,u,e,?_,g2,g3,g4,y0,by omega⟩
  unfold spec_DrawServerHear.f
  rw [hb]
  simp only [Option.bind_some]
  exact Ev.bind h1 (Ev.bind g1 (Ev.bind hx (ev_pos c0 (Ev.bind hy (evnow _)))))
 ·refine ⟨l1,s1,u,e,?_,h2,g3,h3,h4,h5⟩
  unfold spec_DrawServerHear.f
  rw [hb]
  simp only [Option.bind_some]
  exact Ev.bind h1 (Ev.bind g1 (Ev.bind hx (ev_neg c0 (evnow _))))
theorem hearV_yes {l:List S44} {s:Int} {u:Bool} {e:S44} (h:(hearV l s u e).2.2.2=true):hearV l s u e=(l++[e],s,true,true)∧srvB l s=true∧entB e=true∧u=true∧hasE l e=false∧e.f1=cntE l e.f0+1∧l.length < 40:=by
 unfold hearV at h ⊢
 cases hS:srvB l s with
 | false=>rw [hS,if_neg (show ¬ (false=true) by decide)] at h;cases h
 | true =>
  rw [hS,if_pos rfl] at h
  rw [if_pos rfl]
  cases hE:entB e with
  | false=>rw [hE,if_neg (show ¬ (false=true) by decide)] at h;cases h
  | true =>
   rw [hE,if_pos rfl] at h
   rw [if_pos rfl]
   cases u with
   | false=>rw [if_neg (show ¬ (false=true) by decide)] at h;cases h
   | true =>
    rw [if_pos rfl] at h
    rw [if_pos rfl]
    by_cases h1:(addV l e).2=1
    ·obtain ⟨a1,a2,a3,a4⟩:=addV_one h1
     rw [if_pos h1,a1]
     exact ⟨rfl,rfl,rfl,rfl,a2,a3,a4⟩
    ·rw [if_neg h1] at h;cases h
theorem hearV_no {l:List S44} {s:Int} {e:S44} (hS:srvB l s=true) (hE:entB e=true) (hh:hasE l e=true):hearV l s true e=(l,s,true,false):=by
 unfold hearV addV
 rw [hS,hE,hh,if_pos rfl,if_pos rfl,if_pos rfl,if_pos rfl,if_neg (show ¬ ((0:Int)=1) by decide)]
theorem srvB_snoc {l:List S44} {s:Int} {e:S44} (hS:srvB l s=true) (hE:entB e=true) (h1:e.f1=cntE l e.f0+1) (h2:l.length < 40):srvB (l++[e]) s=true:=by
 have:=srvB_true hS
 unfold srvB
 rw [logB_snoc (srvB_log hS) hE h1 h2,dt_ this.2.1,List.length_append,dt_ (by simp;omega)];rfl
end Go.Proofs.YtdpklbomhdpimaaDoor.PL
namespace Go.Proofs.YtdpklbomhdpimaaDoor.P
open Go.ChangeShapes Go.WideShapes Go.ChangeAt Go.RowKit
theorem tOwners:(Tryd.prog.globals[0]?).map (·.type)=some 126:=by kernel_rfl
theorem cOwners:Tryd.prog.cellsOf 126=37:=by kernel_rfl
theorem cInt:Tryd.prog.cellsOf 3=1:=by kernel_rfl
abbrev ownCells:Array Value:=(owners.map fun z=>Value.int .i64 z).toArray
theorem glob_of_laid {W:World} (h:laidMet Tryd.prog [("loop.example/plashet/impl.rowOwners",Rows.laid_loop_example_plashet_impl_rowOwners)] W):Glob W :=
 Lib.tabIs_of_head gOwners tOwners Tryd.underlying126 Tryd.underlying3 cInt cOwners h
theorem door_met (os:Os) (args:Array Value):laidMet Tryd.prog [("loop.example/plashet/impl.rowOwners",Rows.laid_loop_example_plashet_impl_rowOwners)] ((World.doorLaid Tryd.prog 400 os).forCall (fun _ _=>0) ⟨#[],args,[]⟩).memory :=
 laidMet_of_run' 8 (by kernel_rfl) (by kernel_rfl)
abbrev tableH {H:Type}:DataW H:=.agg (owners.map fun z=>.lit (.int .i64 z))
theorem reads_table {H:Type} (enc:TypeId×Value→H) (W:World) (sp:Nat→Bool):DataW.trod enc Tryd.prog W 0 sp true 3 126 ownCells.toList=some (tableH,[]):=by kernel_rfl
theorem tab_vars {H:Type} (enc:TypeId×Value→H) {W:World} (h:Glob W) {sp:Nat→Bool}:DataW.TrodVars enc Tryd.prog W sp ["loop.example/plashet/impl.rowOwners"] [tableH] (MemPlace.row ⟨0,0,none⟩ ownCells.size++[]++[]) :=
 ⟨0,126,ownCells,3,[],[],gOwners,tOwners,h,reads_table enc W sp,rfl,rfl⟩
end Go.Proofs.YtdpklbomhdpimaaDoor.P
