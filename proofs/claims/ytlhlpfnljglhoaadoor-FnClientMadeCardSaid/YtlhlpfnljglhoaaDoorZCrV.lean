/- Joined by programs (wip/shake.py, wip/mini.py). -/
import Derived.ArgAppend
import Derived.Below
import Derived.BigQuiet
import Derived.Deep.AppendLies
import Derived.Deep.CutBlock
import Derived.Deep.DeepCutAuto
import Derived.Deep.Draws
import Derived.Deep.LoopGhost
import Derived.Deep.OwnRows
import Derived.Deep.QuietTactic
import Derived.Deep.RegionHeld3
import Derived.KernelRfl
import Derived.Laws.BitsLemmas
import Derived.Laws.BytesArg
import Derived.Laws.IdiomCopy
import Derived.Laws.MakeOwn
import Derived.Laws.OwnMore
import Derived.Laws.Rows
import Derived.Laws.Slices
import Derived.Laws.StructEq
import Derived.Lib.AppendStr
import Derived.Lib.ConvBytes
import Derived.Maps.AppendAt
import Derived.OrdersHeld
import Derived.OwnWalk
import Derived.RowKit
import Derived.RowKit3
import Derived.Tactics
import Derived.Test.YtlhlpfnljglhoaaDoorRows
import Derived.WalkKit
import Derived.WalkLawsBesides
import Derived.WalkSpells
import Derived.WideLaws
import Derived.Deep.CutRange
import Derived.Lib.LaidTab
import Derived.Lib.Hide
import Derived.RegionTactic
import Derived.LoopTactic
import Derived.Outline
import Derived.LaidMore
import Derived.LaidLaws
import Derived.ProofKit
import Derived.ChangeVars
import Derived.ChangeSame
import Derived.OpenShut
import Derived.ShutString
import Derived.ChangeOld
import Derived.SizedLaws
import Derived.SevenTiedAt
import Derived.Test.YtlhlpfnljglhoaaDoorCards
import Derived.Test.YtlhlpfnljglhoaaDoorTie
import Derived.Test.YtlhlpfnljglhoaaDoorWSized
namespace Go.Proofs.YtlhlpfnljglhoaaDoorW
abbrev R0:=@Go.Proofs.Tryd.func16
abbrev R8:=@Go.Proofs.Tryd.underlying24
abbrev R9:=@List.length_drop
abbrev RA:=@eq_true
abbrev RB:=@Nat.le_refl
abbrev RC:=@List.getElem?_set_self
abbrev RD:=@List.getElem?_eq_getElem
abbrev RE:=@Bool.eq_false_iff
abbrev RF:=@Go.results_cell_row
abbrev RG:=@Go.RowKit.Below.refl
abbrev RH:=@Go.bodyPost_ret
abbrev RI:=@List.mem_cons_self
abbrev RJ:=@Nat.le_trans
abbrev RK:=@Go.Proofs.Tryd.underlying64
abbrev RL:=@List.getElem?_eq_some_iff
abbrev RM:=@Nat.ne_of_gt
abbrev RN:=@Nat.ne_of_lt
abbrev RO:=@beq_iff_eq
abbrev RP:=@Go.Proofs.Tryd.underlying26
abbrev RQ:=@List.set_set
abbrev RR:=@List.getElem_mem
abbrev RS:=@List.getD_eq_getElem?_getD
abbrev RT:=@Go.World.drewN_drewN
abbrev RU:=@List.mem_cons_of_mem
abbrev RV:=@List.length_take
abbrev RW:=@Go.Proofs.Tryd.underlying30
abbrev RX:=@bne_iff_ne
abbrev RY:=@Bool.true_and
abbrev RZ:=@List.drop_eq_getElem_cons
abbrev R_:=@Nat.lt_of_lt_of_le
abbrev Ry:=@if_pos
abbrev Rz:=@if_neg
abbrev S0:=@Option.some.inj
abbrev S3:=@Go.info_parts
abbrev S4:=@Go.Proofs.Tryd.func54
abbrev S5:=@Nat.eq_or_lt_of_le
abbrev S6:=@Nat.eq_zero_or_pos
abbrev S7:=@List.length_singleton
abbrev S8:=@List.mem_append_right
abbrev S9:=@List.ext_getElem?
abbrev SA:=@List.mem_of_mem_take
abbrev SB:=@List.getElem?_append_left
abbrev SC:=@List.getElem?_eq_none
abbrev SD:=@Int.tdiv_eq_ediv_of_nonneg
abbrev SE:=@List.getElem?_append_right
abbrev SF:=@List.mem_of_mem_drop
abbrev SG:=@Nat.lt_or_ge
abbrev SH:=@Or.elim
abbrev SI:=@Go.Proofs.Tryd.underlying68
abbrev SJ:=@congrArg
abbrev SK:=@List.mem_singleton
abbrev SL:=@List.mem_append_left
abbrev SM:=@Option.bind_eq_some_iff
abbrev SN:=@Go.Proofs.Tryd.func17
abbrev SO:=@Array.getElem?_eq_some_iff
abbrev SP:=@List.length_range
abbrev SQ:=@List.getElem_of_mem
abbrev SR:=@List.length_map
abbrev SS:=@Nat.succ_mul
abbrev SU:=@Eq.trans
abbrev SV:=@Nat.sub_le_sub_right
abbrev SW:=@Go.Proofs.Tryd.func22
abbrev SX:=@Go.World.cell?_alloc_lt
abbrev SY:=@Nat.le_mul_of_pos_right
abbrev SZ:=@List.nil_append
abbrev S_:=@List.getElem?_zipIdx
abbrev Sa:=@Go.Addr.add_zero'
abbrev Sb:=@List.drop_eq_nil_of_le
abbrev Sc:=@List.length_append
abbrev Sd:=@Nat.le_of_eq
abbrev Se:=@Bool.false_and
abbrev Sf:=@Go.Proofs.Tryd.underlying23
abbrev Sh:=@Go.Proofs.Tryd.underlying60
abbrev Si:=@List.length_set
abbrev Sj:=@List.length_zipIdx
abbrev Sk:=@Go.Proofs.Tryd.underlying32
abbrev Sl:=@List.mem_cons
abbrev Sm:=@List.getElem?_take
abbrev Sn:=@Go.Proofs.Tryd.underlying95
abbrev So:=@List.mem_of_getElem?
abbrev Sp:=@Nat.add_assoc
abbrev Sq:=@List.getElem?_drop
abbrev Sr:=@List.mem_append
abbrev Ss:=@Nat.mul_le_mul_right
abbrev Su:=@Go.RowKit.Below.heap_setCell
abbrev Sv:=@List.take_append_drop
abbrev Sw:=@Go.Proofs.Tryd.func20
abbrev Sx:=@beq_eq_false_iff_ne
abbrev Sy:=@List.take_succ_eq_append_getElem
abbrev Sz:=@Option.map_eq_some_iff
abbrev T0:=@Go.mem_ready
abbrev T1:=@Bool.true_or
abbrev T2:=@Go.wpList_plain
abbrev T9:=@Bool.or_eq_true
abbrev TA:=@List.not_mem_nil
abbrev TB:=@Option.bind_some
abbrev TC:=@Nat.lt_irrefl
abbrev TD:=@List.drop_append_of_le_length
abbrev TE:=@Go.Proofs.Tryd.func19
abbrev TF:=@Go.Proofs.Tryd.func36
abbrev TG:=@Go.Proofs.Tryd.func38
abbrev TH:=@Go.Proofs.Tryd.func41
abbrev TI:=@List.map_append
abbrev TJ:=@Array.length_toList
abbrev TK:=@Nat.add_sub_cancel'
abbrev TL:=@Int.lt_or_le
abbrev TM:=@Array.toList_setIfInBounds
abbrev TN:=@Int.tmod_eq_emod_of_nonneg
abbrev TO:=@Go.ready_mono
abbrev TP:=@List.mem_drop_iff_getElem
abbrev TQ:=@List.mem_or_eq_of_mem_set
abbrev TR:=@List.mem_take_iff_getElem
abbrev TS:=@List.getElem_drop
abbrev TT:=@Go.Proofs.Tryd.func13
abbrev TU:=@Go.Proofs.Tryd.func45
abbrev TV:=@Go.run_append_own_at
abbrev TW:=@Array.setIfInBounds_comm
abbrev TX:=@Bool.and_eq_true
abbrev TY:=@List.ext_getElem
abbrev TZ:=@List.length_cons
abbrev T_:=@Ne.symm
abbrev Ta:=@Go.Proofs.Tryd.underlying62
abbrev Tb:=@Bool.and_false
abbrev Tc:=@Go.World.block_lt_of_cell?
abbrev Td:=@List.eq_nil_of_length_eq_zero
abbrev Te:=@List.take_append_of_le_length
abbrev Tf:=@Go.Proofs.Tryd.func31
abbrev Tg:=@Go.Proofs.Tryd.func50
abbrev Th:=@List.mem_map
abbrev Ti:=@Go.Proofs.Tryd.underlying114
abbrev Tj:=@Go.Lib.run_eql_slice_nil
abbrev Tk:=@List.append_assoc
abbrev Tl:=@Int.le_refl
abbrev Tm:=@List.getElem?_set_ne
abbrev Tn:=@Go.Proofs.Tryd.func40
abbrev To:=@Go.Proofs.Tryd.func63
abbrev Tp:=@Nat.zero_add
abbrev Tq:=@Go.World.grownBy_alloc
abbrev Tr:=@List.append_nil
abbrev Ts:=@Go.Proofs.Tryd.func33
abbrev Tt:=@List.getElem?_map
abbrev Tu:=@List.take_of_length_le
abbrev Tv:=@Go.Proofs.Tryd.underlying22
abbrev Tw:=@of_decide_eq_true
abbrev Tx:=@List.all_eq_true
abbrev Ty:=@List.getElem_map
abbrev Tz:=@List.getElem_set
abbrev Ua:=@Bool.and_true
abbrev Ub:=@List.map_cons
end Go.Proofs.YtlhlpfnljglhoaaDoorW
open Go.Proofs.YtlhlpfnljglhoaaDoorW
section
set_option linter.unusedVariables false
set_option linter.unusedSimpArgs false
namespace Go.Proofs.YtlhlpfnljglhoaaDoorW.PrintWords
open Go.RowKit
structure Ac (p:Prop):Prop where mk::(o:p)
structure As (w w':World):Prop where mk::(o:∃n,w'=w.drewN n)
theorem As.refl(w:World):As w w:=⟨⟨0,rfl⟩⟩
theorem As.step{w w':World}(h:As w w')(n:Nat):As w (w'.drewN n):=by obtain⟨m,rfl⟩:=h;exact⟨⟨m+n,RT ..⟩⟩
theorem As.below{w w':World}(h:As w w'):Below w.heap.size w w':=by
 obtain⟨n,rfl⟩:=h;induction n with
 | zero=>exact RG _ _
 | succ n a=>rw[<-World.drew_drewN];exact a.drew
def rd(xs:List Int)(i:Int):Int:=xs.getD i.toNat 0
def bt(s:ByteArray)(i:Int):Int:=if h:i.toNat<s.size then((s[i.toNat]'h).toNat:Int)else 0
theorem IZ(s:ByteArray)(i:Int):∀h:i.toNat<s.size,((s[i.toNat]'h).toNat:Int)=bt s i:=λh=>by simp[bt,h]
theorem FT{w W:World}(h:Below w.heap.size w W)(o:Obj):Below w.heap.size w (W.alloc o):=h.alloc h.size o
theorem E2{B:Nat}{w W:World}(h:Below B w W):Below B w W.drew:=⟨h.os,h.tape,h.output,h.size,h.block⟩
theorem Au{B:Nat}{w W:World}(h:Below B w W)(n:Nat):Below B w (W.drewN n):=⟨h.os,h.tape,h.output,h.size,h.block⟩
theorem K6{B:Nat}{w w1 a:World}(h:Below B w w1)(hB:B≤w1.heap.size)(k:Below w1.heap.size w1 a):Below B w a :=
  h.trans ⟨k.os,k.tape,k.output,k.size,λi hi=>k.block i (R_ hi hB)⟩
theorem I1{w w1:World}(h:Below w.heap.size w w1)(row:Option Nat):w.grownBy w1 row:=⟨h.os,h.tape,h.output,h.size,λi hi _=>h.block i hi⟩
theorem Em{w w1:World}(h:Below w.heap.size w w1){a:Addr}{v:Value}(b:w.cell? a=some v):w1.cell? a=some v:=(h.cell (Tc w a b)).trans b
theorem add_plain(g j:Nat):(⟨g,0,none⟩:Addr).add j=⟨g,j,none⟩:=by unfold Addr.add;split <;> simp_all
def Fa(w:World)(k:IntKind)(A:Option Addr)(n:Nat)(xs:List Int):Prop :=
  xs.length=n∧n≤9223372036854775807∧(0<n->∃ad,A=some ad∧∀j,j<n->w.cell? (ad.add j)=some (.int k (xs.getD j 0)))
theorem Ov(W:World)(base:Nat)(e:TypeId)(size:Nat):W.ownsRow base e size (.slice none 0 0) 0 []:=⟨by simp,.inl ⟨rfl,rfl⟩⟩
theorem FJ{w:World}{base:Nat}{e:TypeId}{size n:Nat}{v:Value}{xs:List Value}(h:w.ownsRow base e size v n xs)(k:Nat)(a:v.ownBlock=some k):base≤k:=by
 rcases h.2 with⟨rfl,_⟩|⟨g,cap,cur,rfl,b,_⟩
 ·simp[Value.ownBlock]at a
 have:g=k:=by simpa[Value.ownBlock]using a
 omega
theorem Nw{w:World}{base:Nat}{e:TypeId}{size n:Nat}{v:Value}{xs:List Value}(h:w.ownsRow base e size v n xs)(k:Nat)(a:v.ownBlock=some k):k<w.heap.size:=by
 rcases h.2 with⟨rfl,_⟩|⟨g,cap,cur,rfl,c,b,_⟩
 ·simp[Value.ownBlock]at a
 have:g=k:=by simpa[Value.ownBlock]using a
 subst this;exact(SO.1 b).1
section
variable {P:Program} {ops:Array Oper} {rest:List Oper} {o:Oper} {a:Act} {Q:Exit->Act->World->Prop}
end
section
variable {P:Program}
end
section
variable {P:Program} {ops:Array Oper} {rest:List Oper} {o:Oper} {a:Act} {Q:Exit->Act->World->Prop}
end
def GV{α:Type}(a b:Option α):Prop:=∀r,a=some r->b=some r
theorem GV.refl{α:Type}(a:Option α):GV a a:=λ_ h=>h
theorem GV.none{α:Type}(b:Option α):GV Option.none b:=λ_ h=>by cases h
theorem GV.trans{α:Type}{a b c:Option α}(h:GV a b)(k:GV b c):GV a c:=λr d=>k r (h r d)
theorem GV.ite{α:Type}{c:Prop}[Decidable c]{a a' b b':Option α}(h:GV a a')(k:GV b b'):GV (if c then a else b) (if c then a' else b'):=by
 split
 ·exact h
 exact k
theorem GV.bind{α β:Type}{a a':Option α}{f b:α->Option β}(h:GV a a')(k:∀x,GV (f x) (b x)):GV (a.bind f) (a'.bind b):=by intro r d;obtain⟨x,e,c⟩:=SM.1 d;exact SM.2 ⟨x,h x e,k x r c⟩
theorem Is{α:Type}{g:Nat->Option α}(h:∀k,GV (g k) (g (k+1)))(k:Nat):∀j,GV (g k) (g (k+j))
  | 0=>GV.refl _
  | j+1=>(Is h k j).trans (h (k+j))
theorem Mb{α:Type}{g:Nat->Option α}(h:∀k,GV (g k) (g (k+1))){k a:Nat}(b:k≤a){r:α}(c:g k=some r):g a=some r:=by have:=Is h k (a-k) r c;rwa[TK b]at this
def Bn{α:Type}(R:α->List Value->Prop)(size:Nat)(ps:List α)(cs:List Value):Prop :=
  cs.length=ps.length*size∧∀j p,ps[j]?=some p->R p ((cs.drop (j*size)).take size)
theorem Bn.none{α:Type}(R:α->List Value->Prop)(size:Nat):Bn R size [] []:=⟨by simp,λj p h=>by simp at h⟩
theorem Bn.snoc{α:Type}{R:α->List Value->Prop}{size:Nat}{ps:List α}{cs c:List Value}{p:α}(h:Bn R size ps cs)(k:R p c)(g:c.length=size):Bn R size (ps++[p]) (cs++c):=by
 refine⟨by rw[Sc,h.1,g,Sc,S7,Nat.add_mul,Nat.one_mul],λj q a=>?_⟩;rcases SG j ps.length with b|b
 ·rw[SB b]at a;have h1:j*size+size≤cs.length:=by rw[h.1,<-SS];exact Ss _ b
  have i:=h.2 j q a;rw[TD (by omega),Te (by rw[R9];omega)];exact i
 have d:j=ps.length:=by have:=(RL.1 a).1;rw[Sc,S7]at this;omega
 subst d;have e:p=q:=by simpa using a
 subst e;rw[<-h.1,List.drop_left,<-g,List.take_length];exact k
theorem Bn.Ga{α:Type}{R R':α->List Value->Prop}{size:Nat}{ps:List α}{cs:List Value}(h:Bn R size ps cs)(hR:∀p c,R p c->R' p c):Bn R' size ps cs:=⟨h.1,λj p a=>hR _ _ (h.2 j p a)⟩
def C0{α:Type}(R:α->List Value->Prop)(size:Nat)(w:World)(A:Option Addr)(n:Nat)(ps:List α):Prop :=
  ps.length=n∧n≤9223372036854775807∧(0<n->∃ad,A=some ad∧∀j p,ps[j]?=some p->∃c,c.length=size∧R p c∧∀i u,c[i]?=some u->w.cell? (ad.add (j*size+i))=some u)
theorem C0.Q6{α:Type}{R:α->List Value->Prop}{size:Nat}{w:World}{A:Option Addr}{n:Nat}{ps:List α}(h:C0 R size w A n ps)(d:α)(i:Int)(h0:0≤i)(h1:i<n) :
    ∃ad c,A=some ad∧c.length=size∧R (ps.getD i.toNat d) c∧∀j u,c[j]?=some u->w.cell? (ad.add (i.toNat*size+j))=some u:=by
 obtain⟨ad,e,b⟩:=h.2.2 (by omega);have hl:i.toNat<ps.length:=by have:=h.1;omega
 obtain⟨c,hs,g,a⟩:=b i.toNat _ (RD hl);refine⟨ad,c,e,hs,?_,a⟩;rw[RS,RD hl];exact g
theorem C0.Ga{α:Type}{R R':α->List Value->Prop}{size:Nat}{w w1:World}{A:Option Addr}{n:Nat}{ps:List α}(h:C0 R size w A n ps)(b:Below w.heap.size w w1)(hR:∀p c,R p c->R' p c):C0 R' size w1 A n ps :=
  ⟨h.1,h.2.1,λk=>by
    obtain⟨ad,e,d⟩:=h.2.2 k
    refine⟨ad,e,λj p g=>?_⟩
    obtain⟨c,hs,l,a⟩:=d j p g
    exact⟨c,hs,hR _ _ l,λi u hu=>Em b (a i u hu)⟩⟩
theorem Jl{α:Type}{R:α->List Value->Prop}{w:World}{base n size:Nat}{e:TypeId}{v:Value}{ps:List α}{cs:List Value}(h:w.ownsRow base e size v n cs)(hR:Bn R size ps cs)(b:ps.length=n) :
    ∃A c,v=.slice A n c∧C0 R size w A n ps:=by
 rcases S6 n with h0|h0
 ·rcases h.2 with⟨rfl,rfl⟩|⟨g,cap,cur,rfl,_⟩
  ·exact⟨none,0,rfl,b,by omega,λd=>absurd d (by omega)⟩
  exact⟨_,cap,rfl,b,by omega,λd=>absurd d (by omega)⟩
 obtain⟨g,cap,rfl,_,_⟩:=h.form h0
 have hm:n≤9223372036854775807:=by
  rcases h.2 with⟨_,h1⟩|⟨g',k,cur,he,_,_,h1,m,_⟩
  ·omega
  simp only[maxLen]at m;omega
 refine⟨_,cap,rfl,b,hm,λ_=>⟨_,rfl,λj p l=>⟨(cs.drop (j*size)).take size,?_,hR.2 j p l,λi u hu=>?_⟩⟩⟩
 ·have a:=(RL.1 l).1;have h1:j*size+size≤cs.length:=by rw[hR.1,<-SS];exact Ss _ a
  rw[RV,R9];omega
 refine h.cells (g:=g) rfl _ u ?_;rw[Sm]at hu;split at hu
 ·rw[Sq]at hu;exact hu
 cases hu
theorem CL(ad:Addr)(m j:Nat)(a:0<j):ad.add (m+j)=⟨(ad.add m).block,(ad.add m).off+j,none⟩:=by
 unfold Addr.add;by_cases hm:m=0
 ·subst hm;simp[Nat.ne_of_gt a]
 simp[hm,Nat.add_assoc]
section
variable {P:Program} {ops:Array Oper} {rest:List Oper} {o:Oper} {a:Act} {Q:Exit->Act->World->Prop}
theorem G6{w0 W:World}(base:Nat)(m:o.guard=none)(s x:Operand)(t e:TypeId)(z:Value)(size bytes:Nat)
    (B:o.op=.call { callee:=.builtin .append,args:=#[s,x],argTypes:=#[t,t] })
    (D:P.underlying t=some (.slice e))(g:(P.info? e).map (λi=>(i.zero,i.size,i.bytes))=some (some z,size,bytes))(hz:z.cells.size=size)(p:0<size)(l:0<bytes)
    (v:Value)(n:Nat)(xs ys:List Value)(hs:a.eval s=v)(E:a.eval x=.slice (some ⟨W.heap.size,0,none⟩) 1 1)(q:ys.length=size)(h1:∀u∈ys,u.oneCell'=true)
    (A:W.ownsRow base e size v n xs)(HB:Below base w0 W)(d:base≤W.heap.size)(hl:(n+1)*bytes≤140737488355328)
    (h:∀v1 w1,w1.ownsRow base e size v1 (n+1) (xs++ys)->Below base w0 w1->W.grownBy w1 v.ownBlock->(v1.ownBlock=v.ownBlock∨∃b,v1.ownBlock=some b∧W.heap.size≤b)->wpList P ops Q rest (a.put o.dst v1) w1) :
    wpList P ops Q (o::rest) a (W.alloc (.cells ys.toArray e)):=by
 obtain⟨i0,hi,k⟩:=Sz.1 g;simp only[Prod.mk.injEq]at k;obtain⟨r,w,y⟩:=k;have hlen:n+1≤140737488355328:=RJ (SY _ l) hl
 refine wpList_append_own_at (W.alloc (.cells ys.toArray e)) m s x t B base e i0 z size bytes D hi r w y hz p v n xs hs (A.alloc _) ⟨W.heap.size,0,none⟩ 1 1 ys E (by rw[q];simp)
   (by simpa using World.news_of_block (cs:=ys.toArray) (t:=e) (fr:=(0,0)) (heap_alloc_new W (.cells ys.toArray e))) h1 (by simp only[maxLen];omega) hl (by simp;omega) ?_
 intro v1 w1 j hg _ c;refine h v1 w1 j ((HB.alloc d _).grown hg (by simp;omega) (FJ A)) (World.grownBy.trans (Tq W _ _) hg) ?_;rcases c with c|c
 ·exact .inl c
 exact .inr ⟨_,c,by simp⟩
end
theorem Gd{w:World}{base:Nat}{e t:TypeId}{size n g:Nat}{v:Value}{xs:List Value}{cs:Array Value}(h:w.ownsRow base e size v n xs)(hg:w.heap[g]?=some (.cells cs t (0,0)))(b:e≠t):some g≠v.ownBlock:=by
 rcases h.2 with⟨rfl,_⟩|⟨g',cap,cur,rfl,_,a,_⟩
 ·simp[Value.ownBlock]
 intro he;have:g=g':=by simpa[Value.ownBlock]using he
 subst this;rw[hg]at a;injection a with a;injection a with _ c;exact b c.symm
theorem Fm{w:World}{g:Nat}{t:TypeId}{cs:Array Value}(h:w.heap[g]?=some (.cells cs t (0,0)))(i:Nat)(u:Value):(w.setCell ⟨g,i,none⟩ u).heap[g]?=some (.cells (cs.setIfInBounds i u) t (0,0)):=by simp[World.setCell,Array.getElem?_modify,h]
theorem FA{w:World}{g:Nat}{t:TypeId}{cs:Array Value}(h:w.heap[g]?=some (.cells cs t (0,0))){p:Addr}(a:g≠p.block)(u:Value):(w.setCell p u).heap[g]?=some (.cells cs t (0,0)):=(Su w p u g a).trans h
theorem Av{w:World}{g:Nat}{o:Obj}(h:w.heap[g]?=some o):g<w.heap.size:=(SO.1 h).1
theorem Ax{w:World}{g:Nat}{t:TypeId}{cs:Array Value}(h:w.heap[g]?=some (.cells cs t (0,0)))(i:Nat):w.cell? ⟨g,i,none⟩=cs[i]?:=cell_of_row w g i cs t (0,0) h
theorem BU{w:World}{g:Nat}{t:TypeId}{cs:Array Value}(h:w.heap[g]?=some (.cells cs t (0,0)))(i:Nat):w.frozen? ⟨g,i,none⟩=false:=by simp[World.frozen?,h]
theorem AO{w w1:World}{g:Nat}{o:Obj}{row:Option Nat}(h:w.heap[g]?=some o)(hg:w.grownBy w1 row)(a:some g≠row):w1.heap[g]?=some o:=(hg.block g (Av h) a).trans h
def Ah(w w':World)(g:Nat)(row:Option Nat):Prop:=w.heap.size≤w'.heap.size∧∀i,i<w.heap.size->i≠g->some i≠row->w'.heap[i]?=w.heap[i]?
theorem Ah.refl(w:World)(g:Nat)(row:Option Nat):Ah w w g row:=⟨RB _,λ_ _ _ _=>rfl⟩
theorem Ah.DJ{w w1:World}{row:Option Nat}(h:w.grownBy w1 row)(g:Nat):Ah w w1 g row:=⟨h.size,λi hi _ a=>h.block i hi a⟩
theorem Ah.Dl{w w1:World}(h:Below w.heap.size w w1)(g:Nat)(row:Option Nat):Ah w w1 g row:=⟨h.size,λi hi _ _=>h.block i hi⟩
theorem Ah.QQ{w w1:World}{g:Nat}{row:Option Nat}(h:Ah w w1 g row)(j:Nat)(u:Value):Ah w (w1.setCell ⟨g,j,none⟩ u) g row :=
  ⟨by simpa[World.setCell]using h.1,λi hi hg a=>(Su w1 ⟨g,j,none⟩ u i hg).trans (h.2 i hi hg a)⟩
theorem Ah.trans{w w1 d:World}{g:Nat}{row a:Option Nat}(h:Ah w w1 g row)(k:Ah w1 d g a)(j:a=row∨∃b,a=some b∧w.heap.size≤b):Ah w d g row :=
  ⟨RJ h.1 k.1,λi hi hg c=>by
    refine(k.2 i (R_ hi h.1) hg ?_).trans (h.2 i hi hg c)
    rcases j with rfl|⟨b,rfl,l⟩
    · exact c
    · intro e
      injection e with e
      omega⟩
theorem Ah.Ex{w w1:World}{g g':Nat}{row:Option Nat}{o:Obj}(h:Ah w w1 g row)(a:w.heap[g']?=some o)(hg:g'≠g)(b:some g'≠row):w1.heap[g']?=some o:=(h.2 g' (Av a) hg b).trans a
def Ev{α:Type}(g:Nat->Option α)(r:α):Prop:=∃K,∀k,K≤k->g k=some r
theorem Ev.of{α:Type}{g:Nat->Option α}{r:α}(hg:∀k,GV (g k) (g (k+1))){k:Nat}(h:g k=some r):Ev g r:=⟨k,λ_ a=>Mb hg a h⟩
theorem Ev.bind{α β:Type}{g:Nat->Option α}{f:Nat->α->Option β}{a:α}{r:β}(h:Ev g a)(k:Ev (λn=>f n a) r):Ev (λn=>(g n).bind (f n)) r:=by obtain⟨K,h⟩:=h;obtain⟨b,k⟩:=k;refine⟨max K b,λn d=>?_⟩;have h1:=h n (by omega);have c:=k n (by omega);simp only[h1,Option.bind_some];exact c
theorem Ev.step{α:Type}{g f:Nat->Option α}{r:α}(h:∀k,g (k+1)=f k)(k:Ev f r):Ev g r:=by
 obtain⟨K,k⟩:=k;refine⟨K+1,λn a=>?_⟩;obtain⟨m,rfl⟩:∃m,n=m+1:=⟨n-1,by omega⟩
 rw[h];exact k m (by omega)
theorem Ev.congr{α:Type}{g f:Nat->Option α}{r:α}(h:∀k,g k=f k)(k:Ev f r):Ev g r:=by obtain⟨K,k⟩:=k;exact⟨K,λn a=>(h n).trans (k n a)⟩
section
variable {P:Program} {ops:Array Oper} {o:Oper} {a:Act} {Q:Exit->Act->World->Prop} {K:Act->World->Prop}
theorem H7{w0 W:World}(base:Nat)(hw:Region.wanted o (yielded ops a.tmps)=true)(s x:Operand)(t e:TypeId)(z:Value)(size bytes:Nat)
    (A:o.op=.call { callee:=.builtin .append,args:=#[s,x],argTypes:=#[t,t] })
    (D:P.underlying t=some (.slice e))(g:(P.info? e).map (λi=>(i.zero,i.size,i.bytes))=some (some z,size,bytes))(hz:z.cells.size=size)(m:0<size)(l:0<bytes)
    (v:Value)(n:Nat)(xs ys:List Value)(hs:a.eval s=v)(E:a.eval x=.slice (some ⟨W.heap.size,0,none⟩) 1 1)(p:ys.length=size)(h1:∀u∈ys,u.oneCell'=true)
    (y:W.ownsRow base e size v n xs)(HB:Below base w0 W)(d:base≤W.heap.size)(hl:(n+1)*bytes≤140737488355328)
    (h:∀v1 w1,w1.ownsRow base e size v1 (n+1) (xs++ys)->Below base w0 w1->W.grownBy w1 v.ownBlock->(v1.ownBlock=v.ownBlock∨∃b,v1.ownBlock=some b∧W.heap.size≤b)->K (a.put o.dst v1) w1) :
    if Region.wanted o (yielded ops a.tmps)=true then Oper.wp P o a (W.alloc (.cells ys.toArray e)) K Q else K (a.put o.dst undef) (W.alloc (.cells ys.toArray e)):=by
 obtain⟨i0,hi,k⟩:=Sz.1 g;simp only[Prod.mk.injEq]at k;obtain⟨q,r,w⟩:=k;have hlen:n+1≤140737488355328:=RJ (SY _ l) hl;rw[Ry hw]
 obtain⟨v1,w1,B,j,hg,_,c⟩:=TV (P:=P) (W.alloc (.cells ys.toArray e)) base t o.type e i0 z size bytes D hi q r w hz m v n xs (y.alloc _) ⟨W.heap.size,0,none⟩ 1 1 ys (by rw[p];simp)
   (by simpa using World.news_of_block (cs:=ys.toArray) (t:=e) (fr:=(0,0)) (heap_alloc_new W (.cells ys.toArray e))) h1 (by simp only[maxLen];omega) hl (by simp;omega)
 unfold Oper.wp execOp;simp only[A,resolve,invoke,builtin,Sem.run_bind,Sem.run_pure,Result.andThen_ok,List.map_toArray,List.map_cons,List.map_nil,hs,E,B];refine h v1 w1 j ((HB.alloc d _).grown hg (by simp;omega) (FJ y)) (World.grownBy.trans (Tq W _ _) hg) ?_;rcases c with c|c
 ·exact .inl c
 exact .inr ⟨_,c,by simp⟩
end
theorem Li{w:World}{base Ew:Nat}{e:TypeId}{size n:Nat}{v:Value}{xs:List Value}(h:w.ownsRow base e size v n xs)(b:Ew≤base):w.ownsRow Ew e size v n xs:=by
 obtain⟨h1,a⟩:=h;refine⟨h1,?_⟩;rcases a with a|⟨g,cap,cur,rfl,hg,r⟩
 ·exact .inl a
 exact .inr ⟨g,cap,cur,rfl,RJ b hg,r⟩
section
variable {α:Type} {enc:α->Value} {d:α}
def F1(enc:α->Value)(xs:List α):List Value:=xs.map enc
def KI(d:α)(xs:List α)(i:Int):α:=xs.getD i.toNat d
theorem Ir(xs:List α):(F1 enc xs).length=xs.length:=by simp[F1]
theorem M8(xs:List α)(j:Nat)(h:j<xs.length):(F1 enc xs)[j]?=some (enc (xs.getD j d)):=by simp[F1,List.getElem?_eq_getElem h,List.getD_eq_getElem?_getD]
def Fb(enc:α->Value)(d:α)(w:World)(A:Option Addr)(n:Nat)(xs:List α):Prop :=
  xs.length=n∧n≤9223372036854775807∧(0<n->∃ad,A=some ad∧∀j,j<n->w.cell? (ad.add j)=some (enc (xs.getD j d)))
theorem Fb.at_{w:World}{A:Option Addr}{n:Nat}{xs:List α}(h:Fb enc d w A n xs)(i:Int)(h0:0≤i)(h1:i<n):∃ad,A=some ad∧w.cell? (ad.add i.toNat)=some (enc (KI d xs i)):=by obtain⟨ad,e,a⟩:=h.2.2 (by omega);exact⟨ad,e,a _ (by omega)⟩
theorem Fb.Es{w:World}{A:Option Addr}{n:Nat}{xs:List α}(h:Fb enc d w A n xs)(i:Nat)(hi:i≤n):Fb enc d w A i (xs.take i):=by refine⟨by rw[RV,h.1];omega,by have:=h.2.1;omega,λc=>?_⟩;obtain⟨ad,e,a⟩:=h.2.2 (by omega);refine⟨ad,e,λj b=>?_⟩;rw[a j (by omega)];simp[List.getD_eq_getElem?_getD,b]
theorem Mr{W:World}{base g n cap:Nat}{e:TypeId}{xs:List α}(h:W.ownsRow base e 1 (.slice (some ⟨g,0,none⟩) n cap) n (F1 enc xs))(i:Int)(h0:0≤i)(h1:i<n) :
    W.cell? ⟨g,i.toNat,none⟩=some (enc (KI d xs i))∧W.frozen? ⟨g,i.toNat,none⟩=false:=by
 have hl:xs.length=n:=by have:=h.1;simp[F1]at this;exact this
 constructor
 ·have c:=h.cells (g:=g) rfl i.toNat _ (M8 (d:=d) xs i.toNat (by omega));rwa[add_plain]at c
 rcases h.2 with⟨a,_⟩|⟨g',b,cur,a,_,j,_⟩
 ·cases a
 have:g=g':=by injection a with a;injection a with a;injection a with a
 subst this;simp[World.frozen?,j]
theorem Ka{W:World}{base g n cap:Nat}{e:TypeId}{xs:List α}(h:W.ownsRow base e 1 (.slice (some ⟨g,0,none⟩) n cap) n (F1 enc xs))(i:Int)(x:α) :
    (W.setCell ⟨g,i.toNat,none⟩ (enc x)).ownsRow base e 1 (.slice (some ⟨g,0,none⟩) n cap) n (F1 enc (xs.set i.toNat x))∧W.grownBy (W.setCell ⟨g,i.toNat,none⟩ (enc x)) (some g):=by
 have hs:=h.stored i.toNat (enc x);have he:(F1 enc xs).set i.toNat (enc x)=F1 enc (xs.set i.toNat x):=by simp[F1,List.map_set]
 rwa[he]at hs
end
section
variable {α:Type} {P:Program} {ops:Array Oper} {rest:List Oper} {o:Oper} {a:Act} {Q:Exit->Act->World->Prop}
end
theorem EG{w:World}{g:Nat}{o:Obj}(h:w.heap[g]?=some o)(a:Obj):(w.alloc a).heap[g]?=some o:=(Below.heap_alloc w a g (Av h)).trans h
theorem Du{w:World}{g:Nat}{o:Obj}(h:w.heap[g]?=some o):w.drew.heap[g]?=some o:=h
theorem Fz{w:World}{g:Nat}{o:Obj}(h:w.heap[g]?=some o)(n:Nat):(w.drewN n).heap[g]?=some o:=h
theorem Ao{w w1:World}{g:Nat}{o:Obj}(h:w.heap[g]?=some o)(a:Below w.heap.size w w1):w1.heap[g]?=some o:=(a.block g (Av h)).trans h
theorem EW(w:World)(o:Obj):(w.alloc o).heap[w.heap.size]?=some o:=heap_alloc_new w o
section
variable {P:Program}
theorem CJ{fn:Func}{p u:Tmp}{ty:TypeId}(h:fn.results=#[.cell p ty,.tmp u])(tmps:Array Value)(w:World)(g:Nat)(t:TypeId)(cs:Array Value)(fr:Nat×Nat)(d:TypeDesc)
    (c:tmps.getD p undef=.pointer (some ⟨g,0,none⟩))(hg:w.heap[g]?=some (.cells cs t fr))
    (hu:P.underlying ty=some d)(b:(match d with|.struct _|.array _ _=>true|_=>false)=true)(hi:(P.info? ty).map (·.size)=some cs.size) :
    (results fn tmps).run P w=.ok (.tuple #[.agg cs,tmps.getD u undef]) w:=by
 have a:tmps[p]?.getD undef=.pointer (some ⟨g,0,none⟩):=by simpa using c
 simp[results,h,a,asAddr,run_loadVar_row w g t ty cs fr d hg hu b hi]
theorem I5{fn:Func}{p m:Tmp}{ty b:TypeId}(h:fn.results=#[.cell p ty,.cell m b])(tmps:Array Value)(w:World)(g g':Nat)(t n:TypeId)(cs a:Array Value)(fr c:Nat×Nat)(d d':TypeDesc)
    (r:tmps.getD p undef=.pointer (some ⟨g,0,none⟩))(hg:w.heap[g]?=some (.cells cs t fr))
    (hu:P.underlying ty=some d)(q:(match d with|.struct _|.array _ _=>true|_=>false)=true)(hi:(P.info? ty).map (·.size)=some cs.size)
    (k:tmps.getD m undef=.pointer (some ⟨g',0,none⟩))(i:w.heap[g']?=some (.cells a n c))
    (l:P.underlying b=some d')(e:(match d' with|.struct _|.array _ _=>true|_=>false)=true)(j:(P.info? b).map (·.size)=some a.size) :
    (results fn tmps).run P w=.ok (.tuple #[.agg cs,.agg a]) w:=by
 have h1:tmps[p]?.getD undef=.pointer (some ⟨g,0,none⟩):=by simpa using r
 have o:tmps[m]?.getD undef=.pointer (some ⟨g',0,none⟩):=by simpa using k
 simp[results,h,h1,o,asAddr,run_loadVar_row w g t ty cs fr d hg hu q hi,run_loadVar_row w g' n b a c d' i l e j]
end
theorem PV{w:World}{base n m c size:Nat}{e:TypeId}{A:Option Addr}{xs:List Value}(h:w.ownsRow base e size (.slice A m c) n xs):m≤c:=by
 rcases h.2 with⟨he,_⟩|⟨g,cap,cur,he,_,_,b,_⟩
 ·injection he with _ a h3;omega
 injection he with _ a h3;omega
def Fj{α:Type}(R:α->List Value->Prop)(e:TypeId)(size:Nat)(w:World)(base:Nat)(v:Value)(ps:List α):Prop :=
  ∃inner,w.ownsRow base e size v ps.length inner∧Bn R size ps inner
section
variable {α:Type} {R R':α->List Value->Prop} {e:TypeId} {size:Nat} {w w1:World} {base:Nat} {v:Value} {ps:List α}
theorem Fj.none_(R:α->List Value->Prop)(e:TypeId)(size:Nat)(w:World)(base:Nat):Fj R e size w base (.slice none 0 0) []:=⟨[],Ov _ _ _ _,Bn.none _ _⟩
theorem Fj.Ga(h:Fj R e size w base v ps)(hR:∀p c,R p c->R' p c):Fj R' e size w base v ps:=by obtain⟨inner,a,b⟩:=h;exact⟨inner,a,b.Ga hR⟩
theorem Fj.reads(h:Fj R e size w base v ps):∃A c,v=.slice A ps.length c∧ps.length≤c∧C0 R size w A ps.length ps:=by obtain⟨inner,b,d⟩:=h;obtain⟨A,c,rfl,a⟩:=Jl b d rfl;exact⟨A,c,rfl,PV b,a⟩
theorem Fj.Nt(h:Fj R e size w base v ps){g:Nat}{t:TypeId}{cells:Array Value}(a:w.heap[g]?=some (.cells cells t (0,0)))(c:e≠t):some g≠v.ownBlock:=by obtain⟨inner,b,d⟩:=h;exact Gd b a c
end
section
variable {P:Program} {ops:Array Oper} {rest:List Oper} {o:Oper} {a:Act} {Q:Exit->Act->World->Prop} {α:Type} {R:α->List Value->Prop}
end
section
variable {P:Program} {ops:Array Oper} {o:Oper} {a:Act} {Q:Exit->Act->World->Prop} {K:Act->World->Prop} {α:Type} {R:α->List Value->Prop}
end
theorem C0.Lb{α:Type}{R:α->List Value->Prop}{size:Nat}{w:World}{ad:Addr}{n:Nat}{ps:List α}(h:C0 R size w (some ad) n ps) :
    ∃inner,Bn R size ps inner∧∀j u,inner[j]?=some u->w.cell? (ad.add j)=some u:=by
 have key:∀m,m≤ps.length->∃inner,Bn R size (ps.take m) inner∧∀j u,inner[j]?=some u->w.cell? (ad.add j)=some u:=by
  intro m;induction m with
  | zero=>exact λ_=>⟨[],Bn.none _ _,λj u hu=>by simp at hu⟩
  | succ m p =>
    intro hm
    obtain⟨inner,b,d⟩:=p (by omega)
    obtain⟨l,he,a⟩:=h.2.2 (by have:=h.1;omega)
    injection he with he
    subst he
    obtain⟨c,g,o,e⟩:=a m _ (RD (show m<ps.length by omega))
    refine⟨inner++c,?_,λj u hu=>?_⟩
    · rw[Sy (show m<ps.length by omega)]
      exact b.snoc o g
    · have i:inner.length=m*size:=by rw[b.1,RV,Nat.min_eq_left (by omega)]
      rcases SG j inner.length with k|k
      · rw[SB k]at hu
        exact d j u hu
      · rw[SE k]at hu
        have:=e (j-inner.length) u hu
        rwa[i,TK (by omega)]at this
 obtain⟨inner,b,d⟩:=key ps.length (RB _);rw[List.take_length]at b;exact⟨inner,b,d⟩
section
variable {α:Type} {P:Program}
theorem Jm(enc:α->Value)(d:α)(t e:TypeId)(k:IntKind){i:TypeInfo}(g:P.underlying t=some (.slice e))(hi:P.info? e=some i)(b:i.size=1)(A:Option Addr)(c:Nat)(xs:List α)(j:Int)(h0:0≤j)(hm:j≤xs.length)(m:xs.length≤c) :
    (∀W:World,(Instr.slice t (.slice A xs.length c) none (some (.int k j)) none).run P W=.ok (.slice A (xs.take j.toNat).length c) W) ∧
      (∀w:World,Fb enc d w A xs.length xs->Fb enc d w A (xs.take j.toNat).length (xs.take j.toNat))∧(xs.take j.toNat).length≤c:=by
 have hl:(xs.take j.toNat).length=j.toNat:=by rw[RV];omega
 refine⟨λW=>?_,λw h=>by rw[hl];exact h.Es j.toNat (by omega),by rw[hl];omega⟩;have a:P.elem t=e:=by simp[Program.elem,g]
 have hu:P.underlying t=some (.slice (P.elem t)):=by rw[a];exact g
 have l:(A.map λx=>x.add 0)=A:=by cases A <;> simp[Addr.add]
 rw[run_slice_h W t A xs.length c hu k j h0 (by omega),a,hl];simp[sizeOf,typeInfo,hi,b,sliced,Result.andThen,l]
end
section
variable {P:Program} {ops:Array Oper} {rest:List Oper} {o:Oper} {a:Act} {Q:Exit->Act->World->Prop}
end
structure Kd (α:Type) where
  sz:Nat
  E:List Nat
  K:World->α->List Value->Prop
  M:World->Nat->(Nat->Prop)->α->List Value->Prop
  Ei:∀{w x cs},K w x cs->cs.length=sz
  D7:∀{w x cs},K w x cs->∀u∈cs,u.oneCell'=true
  D5:∀{w w1:World} {x cs},Below w.heap.size w w1->K w x cs->K w1 x cs
  C_:∀{w base ok x cs},M w base ok x cs->K w x cs
  Cv:∀{w base ok Fi x cs},(∀k,ok k->Fi k)->M w base ok x cs->M w base Fi x cs
  Db:∀{w:World} {base ok x cs},M w base ok x cs->M w base (λk=>ok k∧base≤k∧k<w.heap.size∧∃q,q∈E∧∃cells,w.heap[k]?=some (.cells cells q (0,0))) x cs
  DF:∀{w w1:World} {base ok x cs},(∀k,ok k->w1.heap[k]?=w.heap[k]?)->M w base ok x cs->M w1 base ok x cs
  D6:∀{w base Ew ok x cs},Ew≤base->M w base ok x cs->M w Ew ok x cs
theorem Ny{w w1:World}{base:Nat}{e:TypeId}{size n:Nat}{v:Value}{xs:List Value}(h:w.ownsRow base e size v n xs)(hm:∀k,v.ownBlock=some k->w1.heap[k]?=w.heap[k]?):w1.ownsRow base e size v n xs:=by
 obtain⟨h1,a⟩:=h;refine⟨h1,?_⟩;rcases a with a|⟨g,cap,cur,rfl,hg,b,r⟩
 ·exact .inl a
 exact .inr ⟨g,cap,cur,rfl,hg,(hm g (by simp[Value.ownBlock])).trans b,r⟩
theorem GJ{w:World}{base:Nat}{e:TypeId}{size n:Nat}{v:Value}{xs:List Value}(h:w.ownsRow base e size v n xs)(k:Nat)(a:v.ownBlock=some k):∃cells,w.heap[k]?=some (.cells cells e (0,0)):=by
 rcases h.2 with⟨rfl,_⟩|⟨g,cap,cur,rfl,hg,b,r⟩
 ·simp[Value.ownBlock]at a
 have:g=k:=by simpa[Value.ownBlock]using a
 subst this;exact⟨cur,b⟩
namespace Kd
def C{α:Type}(d:Kd α)(w:World)(A:Option Addr)(n:Nat)(xs:List α):Prop:=C0 (d.K w) d.sz w A n xs
def R{α:Type}(d:Kd α)(e:Nat)(w:World)(base:Nat)(ok:Nat->Prop)(v:Value)(xs:List α):Prop :=
  (∀k,v.ownBlock=some k->ok k)∧Fj (d.M w base (λk=>ok k∧some k≠v.ownBlock)) e d.sz w base v xs
section
variable {α:Type} {d:Kd α} {e:Nat} {w w1:World} {base:Nat} {ok Fi:Nat->Prop} {v:Value} {xs:List α}
theorem Bu{A:Option Addr}{n:Nat}(h:d.C w A n xs)(a:Below w.heap.size w w1):d.C w1 A n xs:=C0.Ga h a (λ_ _ b=>d.D5 a b)
theorem He(d:Kd α)(e:Nat)(w:World)(base:Nat)(ok:Nat->Prop):d.R e w base ok (.slice none 0 0) []:=⟨λk a=>by simp[Value.ownBlock]at a,Fj.none_ _ _ _ _ _⟩
theorem Ai(h:d.R e w base ok v xs)(a:∀k,ok k->Fi k):d.R e w base Fi v xs:=⟨λk b=>a k (h.1 k b),h.2.Ga (λ_ _ c=>d.Cv (λk b=>⟨a k b.1,b.2⟩) c)⟩
theorem C4(h:d.R e w base ok v xs):d.R e w base (λk=>ok k∧base≤k∧k<w.heap.size∧∃q,q∈e::d.E∧∃cells,w.heap[k]?=some (.cells cells q (0,0))) v xs:=by
 obtain⟨h0,inner,b,l⟩:=h;refine⟨λk a=>?_,inner,b,l.Ga (λ_ _ i=>d.Cv (λk a=>?_) (d.Db i))⟩
 ·obtain⟨cells,c⟩:=GJ b k a;exact⟨h0 k a,FJ b k a,Nw b k a,e,RI,cells,c⟩
 obtain⟨⟨h1,g⟩,h3,h4,q,j,c⟩:=a;exact⟨⟨h1,h3,h4,q,RU _ j,c⟩,g⟩
theorem Ib(h:d.R e w base ok v xs)(hm:∀k,ok k->w1.heap[k]?=w.heap[k]?):d.R e w1 base ok v xs:=by obtain⟨h0,inner,b,g⟩:=h;exact⟨h0,inner,Ny b (λk a=>hm k (h0 k a)),g.Ga (λ_ _ c=>d.DF (λk a=>hm k a.1) c)⟩
theorem AU{Ew:Nat}(h:d.R e w base ok v xs)(a:Ew≤base):d.R e w Ew ok v xs:=by obtain⟨h0,inner,b,g⟩:=h;exact⟨h0,inner,Li b a,g.Ga (λ_ _ c=>d.D6 a c)⟩
theorem Eo(h:d.R e w base ok v xs)(hm:∀k,ok k->k<w.heap.size->w1.heap[k]?=w.heap[k]?):d.R e w1 base ok v xs :=
  Ai (Ib (C4 h) (λk a=>hm k a.1 a.2.2.1)) (λ_ a=>a.1)
theorem KV{x:α}{cs:List Value}(h:d.M w base ok x cs)(hm:∀k,ok k->k<w.heap.size->w1.heap[k]?=w.heap[k]?):d.M w1 base ok x cs :=
  d.Cv (λ_ a=>a.1) (d.DF (λk a=>hm k a.1 a.2.2.1) (d.Db h))
theorem AJ(h:d.R e w base ok v xs)(a:Below w.heap.size w w1):d.R e w1 base ok v xs:=Eo h (λk _ b=>a.block k b)
theorem Ls{x:α}{cs:List Value}(h:d.M w base ok x cs)(a:Below w.heap.size w w1):d.M w1 base ok x cs:=KV h (λk _ b=>a.block k b)
theorem CS(h:d.R e w base ok v xs){p:Addr}(a:∀k,ok k->k≠p.block)(u:Value):d.R e (w.setCell p u) base ok v xs:=Eo h (λk b _=>Su w p u k (a k b))
theorem Br(h:d.R e w base ok v xs){g:Nat}(c:Ah w w1 g none)(b:∀k,ok k->k≠g):d.R e w1 base ok v xs:=Eo h (λk i a=>c.2 k a (b k i) (by simp))
theorem Aj(h:d.R e w base ok v xs){g t:Nat}{cells:Array Value}(a:w.heap[g]?=some (.cells cells t (0,0)))(l:∀q,q∈e::d.E->q≠t):d.R e w base (λk=>ok k∧k≠g) v xs :=
  Ai (C4 h) (λk c=>⟨c.1,by
    obtain⟨_,_,_,q,j,b,i⟩:=c
    rintro rfl
    rw[i]at a
    injection a with a
    injection a with _ a
    exact l q j a⟩)
theorem JQ(h:d.R e w base ok v xs):∃A c,v=.slice A xs.length c∧xs.length≤c∧d.C w A xs.length xs:=by obtain⟨A,c,he,hl,b⟩:=Fj.reads h.2;exact⟨A,c,he,hl,b.Ga (RG _ _) (λ_ _ a=>d.C_ a)⟩
theorem Be(h:d.R e w base ok v xs):∃A c,v=.slice A xs.length c:=by obtain⟨A,c,he,_⟩:=JQ h;exact⟨A,c,he⟩
theorem Kq(h:d.R e w base ok v xs):∃inner,w.ownsRow base e d.sz v xs.length inner:=by obtain⟨_,inner,a,_⟩:=h;exact⟨inner,a⟩
theorem EY(h:d.R e w base ok v xs){g t:Nat}{cells:Array Value}(a:w.heap[g]?=some (.cells cells t (0,0)))(b:e≠t):some g≠v.ownBlock:=Fj.Nt h.2 a b
end
def scalar{α:Type}(enc:α->Value)(h1:∀x,(enc x).oneCell'=true):Kd α where
  sz:=1
  E:=[]
  K:=λ_ x cs=>cs=[enc x]
  M:=λ_ _ _ x cs=>cs=[enc x]
  Ei:=λh=>by rw[h];rfl
  D7:=λh u hu=>by
    rw[h]at hu
    rw[SK.1 hu]
    exact h1 _
  D5:=λ_ h=>h
  C_:=λh=>h
  Cv:=λ_ h=>h
  Db:=λh=>h
  DF:=λ_ h=>h
  D6:=λ_ h=>h
def int(k:IntKind):Kd Int:=scalar (Value.int k) (λ_=>rfl)
def string:Kd ByteArray:=scalar Value.string (λ_=>rfl)
def slice{α:Type}(e:Nat)(d:Kd α):Kd (List α) where
  sz:=1
  E:=e::d.E
  K:=λw xs cs=>∃A c,cs=[.slice A xs.length c]∧xs.length≤c∧d.C w A xs.length xs
  M:=λw base ok xs cs=>∃v,cs=[v]∧d.R e w base ok v xs
  Ei:=by
    rintro w x cs ⟨A,c,rfl,_⟩
    rfl
  D7:=by
    rintro w x cs ⟨A,c,rfl,_⟩ u hu
    rw[SK.1 hu]
    rfl
  D5:=by
    rintro w w1 x cs a ⟨A,c,rfl,hl,g⟩
    exact⟨A,c,rfl,hl,Bu g a⟩
  C_:=by
    rintro w base ok x cs ⟨v,rfl,h⟩
    obtain⟨A,c,rfl,hl,g⟩:=JQ h
    exact⟨A,c,rfl,hl,g⟩
  Cv:=by
    rintro w base ok Fi x cs b ⟨v,rfl,h⟩
    exact⟨v,rfl,Ai h b⟩
  Db:=by
    rintro w base ok x cs ⟨v,rfl,h⟩
    exact⟨v,rfl,C4 h⟩
  DF:=by
    rintro w w1 base ok x cs hm ⟨v,rfl,h⟩
    exact⟨v,rfl,Ib h hm⟩
  D6:=by
    rintro w base Ew ok x cs a ⟨v,rfl,h⟩
    exact⟨v,rfl,AU h a⟩
def pair{α β:Type}(a:Kd α)(b:Kd β):Kd (α×β) where
  sz:=a.sz+b.sz
  E:=a.E++b.E
  K:=λw x cs=>∃c d,cs=c++d∧a.K w x.1 c∧b.K w x.2 d
  M:=λw base ok x cs=>∃c d,cs=c++d∧a.M w base ok x.1 c∧b.M w base ok x.2 d
  Ei:=by
    rintro w x cs ⟨c,d,rfl,h0,h1⟩
    rw[Sc,a.Ei h0,b.Ei h1]
  D7:=by
    rintro w x cs ⟨c,d,rfl,h0,h1⟩ u hu
    rcases Sr.1 hu with hu|hu
    · exact a.D7 h0 u hu
    · exact b.D7 h1 u hu
  D5:=by
    rintro w w1 x cs e ⟨c,d,rfl,h0,h1⟩
    exact⟨c,d,rfl,a.D5 e h0,b.D5 e h1⟩
  C_:=by
    rintro w base ok x cs ⟨c,d,rfl,h0,h1⟩
    exact⟨c,d,rfl,a.C_ h0,b.C_ h1⟩
  Cv:=by
    rintro w base ok Fi x cs g ⟨c,d,rfl,h0,h1⟩
    exact⟨c,d,rfl,a.Cv g h0,b.Cv g h1⟩
  Db:=by
    rintro w base ok x cs ⟨c,d,rfl,h0,h1⟩
    refine⟨c,d,rfl,a.Cv ?_ (a.Db h0),b.Cv ?_ (b.Db h1)⟩
    · rintro k ⟨i,h3,h4,q,l,j⟩
      exact⟨i,h3,h4,q,SL _ l,j⟩
    · rintro k ⟨i,h3,h4,q,l,j⟩
      exact⟨i,h3,h4,q,S8 _ l,j⟩
  DF:=by
    rintro w w1 base ok x cs hm ⟨c,d,rfl,h0,h1⟩
    exact⟨c,d,rfl,a.DF hm h0,b.DF hm h1⟩
  D6:=by
    rintro w base Ew ok x cs e ⟨c,d,rfl,h0,h1⟩
    exact⟨c,d,rfl,a.D6 e h0,b.D6 e h1⟩
def QJ{α β:Type}(d:Kd α)(f:β->α):Kd β where
  sz:=d.sz
  E:=d.E
  K:=λw x cs=>d.K w (f x) cs
  M:=λw base ok x cs=>d.M w base ok (f x) cs
  Ei:=d.Ei
  D7:=d.D7
  D5:=d.D5
  C_:=d.C_
  Cv:=d.Cv
  Db:=d.Db
  DF:=d.DF
  D6:=d.D6
def bot{α:Type}(sz:Nat)(E:List Nat):Kd α where
  sz:=sz
  E:=E
  K:=λ_ _ _=>False
  M:=λ_ _ _ _ _=>False
  Ei:=λh=>h.elim
  D7:=λh=>h.elim
  D5:=λ_ h=>h
  C_:=λh=>h
  Cv:=λ_ h=>h
  Db:=λh=>h
  DF:=λ_ h=>h
  D6:=λ_ h=>h
def upto{α:Type}(F:Kd α->Kd α)(sz:Nat)(E:List Nat):Nat->Kd α
  | 0=>bot sz E
  | n+1=>F (upto F sz E n)
theorem IL{α:Type}{d:Kd α}{w:World}{A:Option Addr}{n:Nat}{xs:List α}(h:d.C w A n xs)(z:α)(i:Int)(h0:0≤i)(h1:i<n) :
    ∃ad c,A=some ad∧c.length=d.sz∧d.K w (xs.getD i.toNat z) c∧∀j u,c[j]?=some u->w.cell? (ad.add (i.toNat*d.sz+j))=some u:=C0.Q6 h z i h0 h1
theorem IU{α:Type}{d:Kd α}{e base:Nat}{ok okp:Nat->Prop}{W w1:World}{v v1:Value}{xs:List α}{p:α}{inner cs:List Value}(h0:∀k,v.ownBlock=some k->ok k)(x:Bn (d.M W base (λk=>ok k∧some k≠v.ownBlock)) d.sz xs inner)(u:d.M W base okp p cs)(j:∀k,okp k->ok k∧some k≠v.ownBlock)(i:∀k,W.heap.size≤k->ok k)
    (l:w1.ownsRow base e d.sz v1 (xs.length+1) (inner++cs))(hg:W.grownBy w1 v.ownBlock)(g:v1.ownBlock=v.ownBlock∨∃b,v1.ownBlock=some b∧W.heap.size≤b):d.R e w1 base ok v1 (xs++[p]):=by
 have n:∀k,some k≠v.ownBlock->k<W.heap.size->some k≠v1.ownBlock:=by
  intro k a w;rcases g with g|⟨b,m,hle⟩
  ·rw[g];exact a
  rw[m];intro he;injection he with he;omega
 have step:∀{q:α} {c:List Value} {o:Nat->Prop},d.M W base o q c->(∀k,o k->ok k∧some k≠v.ownBlock)->d.M w1 base (λk=>ok k∧some k≠v1.ownBlock) q c:=by intro q c o t r;have h1:=d.DF (w1:=w1) (λk a=>hg.block k a.2.2.1 (r k a.1).2) (d.Db t);exact d.Cv (λk a=>⟨(r k a.1).1,n k (r k a.1).2 a.2.2.1⟩) h1
 refine⟨λk a=>?_,inner++cs,by rw[Sc,S7];exact l,?_⟩
 ·rcases g with g|⟨b,m,hle⟩
  ·exact h0 k (g ▸ a)
  rw[m]at a;injection a with a;exact i k (by omega)
 exact(x.Ga (λ_ _ t=>step t (λ_ a=>a))).snoc (step u j) (d.Ei (d.C_ u))
section
variable {P:Program} {ops:Array Oper} {rest:List Oper} {o:Oper} {a:Act} {Q:Exit->Act->World->Prop} {α:Type}
theorem ES(d:Kd α){w0 W:World}(base:Nat)(y:o.guard=none)(s x:Operand)(t e:TypeId)(z:Value)(bytes:Nat)
    (E:o.op=.call { callee:=.builtin .append,args:=#[s,x],argTypes:=#[t,t] })
    (I:P.underlying t=some (.slice e))(l:(P.info? e).map (λi=>(i.zero,i.size,i.bytes))=some (some z,d.sz,bytes))(hz:z.cells.size=d.sz)(B:0<d.sz)(u:0<bytes)
    (v:Value)(xs:List α)(p:α)(cs:List Value)(ok okp:Nat->Prop)(hs:a.eval s=v)(J:a.eval x=.slice (some ⟨W.heap.size,0,none⟩) 1 1)(A:d.M W base okp p cs)(q:∀k,okp k->ok k∧some k≠v.ownBlock)(c:∀k,W.heap.size≤k->ok k)
    (D:d.R e W base ok v xs)(HB:Below base w0 W)(j:base≤W.heap.size)(hl:(xs.length+1)*bytes≤140737488355328)
    (h:∀v1 w1,d.R e w1 base ok v1 (xs++[p])->Below base w0 w1->W.grownBy w1 v.ownBlock->(v1.ownBlock=v.ownBlock∨∃b,v1.ownBlock=some b∧W.heap.size≤b)->wpList P ops Q rest (a.put o.dst v1) w1) :
    wpList P ops Q (o::rest) a (W.alloc (.cells cs.toArray e)):=by obtain⟨h0,inner,r,G⟩:=D;refine G6 base y s x t e z d.sz bytes E I l hz B u v xs.length inner cs hs J (d.Ei (d.C_ A)) (d.D7 (d.C_ A)) r HB j hl ?_;intro v1 w1 m w n g;exact h v1 w1 (IU h0 G A q c m n g) w n g
end
section
variable {P:Program} {ops:Array Oper} {o:Oper} {a:Act} {Q:Exit->Act->World->Prop} {Kc:Act->World->Prop} {α:Type}
theorem Fl(d:Kd α){w0 W:World}(base:Nat)(hw:Region.wanted o (yielded ops a.tmps)=true)(s x:Operand)(t e:TypeId)(z:Value)(bytes:Nat)
    (D:o.op=.call { callee:=.builtin .append,args:=#[s,x],argTypes:=#[t,t] })
    (G:P.underlying t=some (.slice e))(l:(P.info? e).map (λi=>(i.zero,i.size,i.bytes))=some (some z,d.sz,bytes))(hz:z.cells.size=d.sz)(A:0<d.sz)(u:0<bytes)
    (v:Value)(xs:List α)(p:α)(cs:List Value)(ok okp:Nat->Prop)(hs:a.eval s=v)(I:a.eval x=.slice (some ⟨W.heap.size,0,none⟩) 1 1)(y:d.M W base okp p cs)(q:∀k,okp k->ok k∧some k≠v.ownBlock)(c:∀k,W.heap.size≤k->ok k)
    (B:d.R e W base ok v xs)(HB:Below base w0 W)(j:base≤W.heap.size)(hl:(xs.length+1)*bytes≤140737488355328)
    (h:∀v1 w1,d.R e w1 base ok v1 (xs++[p])->Below base w0 w1->W.grownBy w1 v.ownBlock->(v1.ownBlock=v.ownBlock∨∃b,v1.ownBlock=some b∧W.heap.size≤b)->Kc (a.put o.dst v1) w1) :
    if Region.wanted o (yielded ops a.tmps)=true then Oper.wp P o a (W.alloc (.cells cs.toArray e)) Kc Q else Kc (a.put o.dst undef) (W.alloc (.cells cs.toArray e)):=by obtain⟨h0,inner,r,E⟩:=B;refine H7 base hw s x t e z d.sz bytes D G l hz A u v xs.length inner cs hs I (d.Ei (d.C_ y)) (d.D7 (d.C_ y)) r HB j hl ?_;intro v1 w1 m w n g;exact h v1 w1 (IU h0 E y q c m n g) w n g
end
theorem KM{α:Type}{enc:α->Value}(xs:List α):Bn (λ(x:α) (cs:List Value)=>cs=[enc x]) 1 xs (F1 enc xs):=by
 refine⟨by simp[F1],λj p b=>?_⟩;obtain⟨hl,c⟩:=RL.1 b;have a:j<(F1 enc xs).length:=by rw[Ir];exact hl
 rw[Nat.mul_one,RZ a];simp[F1,c]
theorem MI{α:Type}{enc:α->Value}{h1:∀x,(enc x).oneCell'=true}{e:Nat}{w:World}{base:Nat}{ok:Nat->Prop}{v:Value}{xs:List α}(b:w.ownsRow base e 1 v xs.length (F1 enc xs))(a:∀k,v.ownBlock=some k->ok k):(scalar enc h1).R e w base ok v xs:=⟨a,F1 enc xs,b,KM xs⟩
theorem KH{α:Type}{enc:α->Value}{h1:∀x,(enc x).oneCell'=true}{e:Nat}{w:World}{base:Nat}{ok:Nat->Prop}{v:Value}{xs:List α}(h:(scalar enc h1).R e w base ok v xs):w.ownsRow base e 1 v xs.length (F1 enc xs):=by
 obtain⟨_,inner,g,b⟩:=h
 have:inner=F1 enc xs:=by
  apply S9
  intro j;rcases SG j xs.length with a|a
  ·have d:=b.2 j _ (RD a);have hl:j<inner.length:=by have:=b.1;simp[scalar]at this;omega
   have h3:(inner.drop (j*1)).take 1=[enc xs[j]]:=d;rw[Nat.mul_one,RZ hl]at h3;have h4:inner[j]=enc xs[j]:=by have c:=SJ List.head? h3;rw[List.take_succ_cons]at c;exact S0 c
   rw[RD hl,h4];simp[F1,List.getElem?_eq_getElem a]
  have h3:inner.length=xs.length:=by have:=b.1;simp[scalar]at this;omega
  rw[SC (by omega),SC (by rw[Ir];omega)]
 rw[<-this];exact g
theorem IM{α:Type}{enc:α->Value}{d:α}{h1:∀x,(enc x).oneCell'=true}{w:World}{A:Option Addr}{n:Nat}{xs:List α}(h:Fb enc d w A n xs):(scalar enc h1).C w A n xs:=by
 refine⟨h.1,h.2.1,λg=>?_⟩;obtain⟨ad,e,c⟩:=h.2.2 g;refine⟨ad,e,λj p b=>⟨[enc p],rfl,rfl,λi u hu=>?_⟩⟩;obtain⟨hl,k⟩:=RL.1 b;have a:=c j (by have:=h.1;omega);rw[RS,b]at a;cases i with
 | zero =>
   have:enc p=u:=by simpa using hu
   subst this
   simpa[scalar]using a
 | succ i=>simp at hu
theorem G7{α:Type}{enc:α->Value}{d:α}{h1:∀x,(enc x).oneCell'=true}{w:World}{A:Option Addr}{n:Nat}{xs:List α}(h:(scalar enc h1).C w A n xs):Fb enc d w A n xs:=by
 refine⟨h.1,h.2.1,λi=>?_⟩;obtain⟨ad,e,g⟩:=h.2.2 i;refine⟨ad,e,λj k=>?_⟩;have hl:j<xs.length:=by have:=h.1;omega
 obtain⟨c,_,hK,a⟩:=g j _ (RD hl);have b:c=[enc xs[j]]:=hK;subst b;have:=a 0 _ rfl;simpa[scalar,List.getD_eq_getElem?_getD,List.getElem?_eq_getElem hl]using this
end Kd
namespace Kd
section
variable {α:Type} {F:Kd α->Kd α} {sz:Nat} {E:List Nat} {hs:∀ n,(upto F sz E n).sz=sz} {hE:∀ n q,q∈(upto F sz E n).E->q∈E}
end
end Kd
namespace Kd
theorem F6{α:Type}{d:Kd α}{e base:Nat}{ok:Nat->Prop}{W w1:World}{u v v1:Value}{xs:List α}(h:d.R e W base (λk=>ok k∧some k≠v.ownBlock) u xs)(hg:W.grownBy w1 v.ownBlock)(a:v1.ownBlock=v.ownBlock∨∃b,v1.ownBlock=some b∧W.heap.size≤b):d.R e w1 base (λk=>ok k∧some k≠v1.ownBlock) u xs:=by
 refine Ai (Ib (C4 h) (λk c=>hg.block k c.2.2.1 c.1.2)) (λk c=>⟨c.1.1,?_⟩);rcases a with a|⟨b,g,hle⟩
 ·rw[a];exact c.1.2
 rw[g];intro he;injection he with he;have:=c.2.2.1;omega
end Kd
namespace Kd
section
variable {α β:Type} {d:Kd α} {d':Kd β} {e e':Nat} {w w1 W:World} {base b b':Nat} {ok Fi okv oku:Nat->Prop} {v u:Value} {xs:List α} {ys:List β}
theorem D_(h:d.R e w base ok v xs):d.R e w.drew base ok v xs:=AJ h (E2 (RG _ _))
theorem N2(h:d.R e w base ok v xs)(m:Nat):d.R e (w.drewN m) base ok v xs:=AJ h (Au (RG _ _) m)
theorem B_{A:Option Addr}{n:Nat}(h:d.C w A n xs)(m:Nat):d.C (w.drewN m) A n xs:=Bu h (Au (RG _ _) m)
theorem Qc(d:Kd α)(w:World):d.C w none ([]:List α).length []:=⟨rfl,by simp,λh=>absurd h (TC 0)⟩
theorem At{A:Option Addr}{n c:Nat}(h:d.R e w base ok (.slice A n c) xs):n=xs.length∧n≤c∧d.C w A xs.length xs:=by obtain⟨A',g,he,hl,b⟩:=JQ h;injection he with h1 a h3;subst h1;exact⟨a,by omega,b⟩
theorem EH(h:d.R e w base ok v xs):∀k,v.ownBlock=some k->k<w.heap.size:=by obtain⟨inner,a⟩:=Kq h;exact Nw a
theorem Ch(h:d.R e w base ok v xs):∀k,v.ownBlock=some k->base≤k:=by obtain⟨inner,a⟩:=Kq h;exact FJ a
theorem Gn(h:d.R e w base ok v xs){g:Nat}(a:∀k,ok k->k≠g):some g≠v.ownBlock:=λe=>a g (h.1 g e.symm) rfl
theorem IV(h:d.R e w base ok v xs)(i:0<xs.length):∃g cap,v=.slice (some ⟨g,0,none⟩) xs.length cap∧base≤g∧g<w.heap.size∧∃cells,w.heap[g]?=some (.cells cells e (0,0)):=by obtain⟨inner,a⟩:=Kq h;obtain⟨g,cap,he,b,hl⟩:=a.form i;obtain⟨cells,c⟩:=GJ a g (by rw[he];simp[Value.ownBlock]);exact⟨g,cap,he,b,hl,cells,c⟩
end
section
variable {w W:World} {A:Option Addr} {n:Nat}
theorem Fu{k:IntKind}{xs:List Int}(h:(Kd.int k).C w A n xs)(i:Int)(h0:0≤i)(h1:i<n):∃ad,A=some ad∧w.cell? (ad.add i.toNat)=some (.int k (rd xs i)) :=
  Fb.at_ (G7 (enc:=Value.int k) (d:=(0:Int)) (h1:=λ_=>rfl) h) i h0 h1
theorem Mc{xs:List ByteArray}(h:Kd.string.C w A n xs)(i:Int)(h0:0≤i)(h1:i<n):∃ad,A=some ad∧w.cell? (ad.add i.toNat)=some (.string (KI ByteArray.empty xs i)) :=
  Fb.at_ (G7 (enc:=Value.string) (d:=ByteArray.empty) (h1:=λ_=>rfl) h) i h0 h1
variable {α:Type} {enc:α->Value} {h1:∀ x,(enc x).oneCell'=true} {e base g cap:Nat} {ok:Nat->Prop} {xs:List α}
theorem Pt(d:α)(h:(scalar enc h1).R e W base ok (.slice (some ⟨g,0,none⟩) xs.length cap) xs)(i:Int)(h0:0≤i)(hi:i<xs.length):W.cell? ⟨g,i.toNat,none⟩=some (enc (KI d xs i))∧W.frozen? ⟨g,i.toNat,none⟩=false:=Mr (KH h) i h0 hi
theorem Qm(h:(scalar enc h1).R e W base ok (.slice (some ⟨g,0,none⟩) xs.length cap) xs)(i:Int)(x:α):(scalar enc h1).R e (W.setCell ⟨g,i.toNat,none⟩ (enc x)) base ok (.slice (some ⟨g,0,none⟩) xs.length cap) (xs.set i.toNat x)∧W.grownBy (W.setCell ⟨g,i.toNat,none⟩ (enc x)) (some g):=by obtain⟨a,hg⟩:=Ka (KH h) i x;exact⟨MI (by rw[Si];exact a) h.1,hg⟩
end
section
variable {P:Program} {ops:Array Oper} {rest:List Oper} {o:Oper} {a:Act} {Q:Exit->Act->World->Prop}
theorem Ju{W w1:World}{v:Value}(c:o.guard=none)(b:(execOp a.eval o).run P W=.ok (.value v) w1)(h:wpList P ops Q rest (a.put o.dst v) w1):wpList P ops Q (o::rest) a W:=by
 refine T2 c λK hK=>?_
 unfold Oper.wp;rw[b];exact hK _ _ h
variable {α:Type}
theorem DG(d:Kd α){w0 W:World}(base e:Nat)(n:o.guard=none){N:Tmp}(_hd:o.dst=some N){xs:List α}{inner:List Value}{ok okp:Nat->Prop}
    (l:(execOp a.eval o).run P W=.ok (.value (.slice (some ⟨W.heap.size,0,none⟩) xs.length xs.length)) (W.alloc (.cells inner.toArray e)))
    (j:Bn (d.M W base okp) d.sz xs inner)(q:∀k,okp k->ok k)(i:ok W.heap.size)(HB:Below base w0 W)(g:base≤W.heap.size)(hm:xs.length≤9223372036854775807)
    (h:∀v1 w1,d.R e w1 base ok v1 xs->Below base w0 w1->W.grownBy w1 none->(∃b,v1.ownBlock=some b∧W.heap.size≤b)->wpList P ops Q rest (a.put o.dst v1) w1):wpList P ops Q (o::rest) a W:=by
 refine Ju n l (h _ _ ⟨λk m=>?_,inner,?_,?_⟩ (HB.alloc g _) (Tq W _ none) ⟨W.heap.size,by simp[Value.ownBlock],RB _⟩)
 ·have:W.heap.size=k:=by simpa[Value.ownBlock]using m
  subst this;exact i
 ·have r:=World.ownsRow_lit (base:=base) (e:=e) (size:=d.sz) W inner.toArray xs.length g (by simpa[maxLen]using hm) (by simpa using j.1);simpa using r
 refine j.Ga (λp c t=>d.Cv (λk m=>⟨q k m.1,λhe=>?_⟩) (Ls (d.Db t) (FT (RG _ _) _)));have h3:k=W.heap.size:=by simpa[Value.ownBlock]using he
 have:=m.2.2.1;omega
end
end Kd
section
variable {P:Program}
theorem Ih(t e:TypeId)(d:IntKind){i:TypeInfo}(b:P.underlying t=some (.slice e))(hi:P.info? e=some i)(A:Option Addr)(n c:Nat)(j:Int)(h0:0≤j)(hm:j≤n)(k:n≤c) :
    ∀W:World,(Instr.slice t (.slice A n c) none (some (.int d j)) none).run P W=.ok (.slice A j.toNat c) W:=by
 intro W;have a:P.elem t=e:=by simp[Program.elem,b]
 have hu:P.underlying t=some (.slice (P.elem t)):=by rw[a];exact b
 have g:(A.map λx=>x.add 0)=A:=by cases A <;> simp[Addr.add]
 rw[run_slice_h W t A n c hu d j h0 (by omega),a];simp[sizeOf,typeInfo,hi,sliced,Result.andThen,g]
theorem Gs(t e:TypeId)(g:IntKind){i:TypeInfo}(d:P.underlying t=some (.slice e))(hi:P.info? e=some i)(size:Nat)(b:i.size=size)(A:Option Addr)(n c:Nat)(j:Int)(h0:0≤j)(hm:j≤n) :
    ∀W:World,(Instr.slice t (.slice A n c) (some (.int g j)) none none).run P W=.ok (.slice (if c=j.toNat then A else A.map (·.add (j.toNat*size))) (n-j.toNat) (c-j.toNat)) W:=by
 intro W;have a:P.elem t=e:=by simp[Program.elem,d]
 have hu:P.underlying t=some (.slice (P.elem t)):=by rw[a];exact d
 rw[run_slice_l W t A n c hu g j h0 hm,a];simp[sizeOf,typeInfo,hi,b,sliced,Result.andThen]
end
def Q2(w:World)(base:Nat)(e:TypeId)(size:Nat)(v:Value)(n:Nat)(xs:List Value):Prop :=
  xs.length=n*size ∧
  ((n=0∧∃A,v=.slice A 0 0∧∀a,A=some a->base≤a.block∧∃cur,w.heap[a.block]?=some (.cells cur e (0,0))) ∨
   ∃g off cap cur,v=.slice (some ⟨g,off*size,none⟩) n cap∧base≤g∧w.heap[g]?=some (.cells cur e (0,0))∧n≤cap∧off+cap≤maxLen∧cur.size=(off+cap)*size∧(cur.toList.drop (off*size)).take (n*size)=xs)
section
variable {w w1:World} {base n size:Nat} {e:TypeId} {v:Value} {xs:List Value}
theorem PD(g o j:Nat):(⟨g,o,none⟩:Addr).add j=⟨g,o+j,none⟩:=by unfold Addr.add;split <;> simp_all
theorem H5{g:Nat}:∀(b:List Value) (o:Nat) {w:World} (k:Nat),k≠g->(w.setCells g o b).heap[k]?=w.heap[k]?
  | [],_,_,_,_=>rfl
  | v::r,o,w,k,a=>by
    rw[World.setCells,H5 r (o+1) k a]
    exact Su w ⟨g,o,none⟩ v k a
theorem GP(g:Nat):∀(a:List Value) (o:Nat) (w:World),(w.setCells g o a).os=w.os∧(w.setCells g o a).tape=w.tape∧(w.setCells g o a).output=w.output∧(w.setCells g o a).heap.size=w.heap.size
  | [],_,_=>⟨rfl,rfl,rfl,rfl⟩
  | v::r,o,w=>by
    obtain⟨h1,b,h3,h4⟩:=GP g r (o+1) (w.setCell ⟨g,o,none⟩ v)
    rw[World.setCells]
    exact⟨h1,b,h3,by rw[h4];simp[World.setCell]⟩
theorem H6{g:Nat}{e:TypeId}:∀(b:List Value) (o:Nat) (w:World) (cur:Array Value),w.heap[g]?=some (.cells cur e (0,0))->o+b.length≤cur.size ->
    ∃a,(w.setCells g o b).heap[g]?=some (.cells a e (0,0))∧a.size=cur.size∧a.toList=cur.toList.take o++b++cur.toList.drop (o+b.length)
  | [],o,w,cur,h,_=>⟨cur,h,rfl,by simp⟩
  | v::r,o,w,cur,h,hl=>by
    have d:=Fm h o v
    simp only[List.length_cons]at hl
    obtain⟨a,h3,h4,i⟩:=H6 r (o+1) (w.setCell ⟨g,o,none⟩ v) _ d (by simp;omega)
    refine⟨a,h3,by rw[h4];simp,?_⟩
    rw[i,TM]
    have j:o<cur.toList.length:=by rw[TJ];omega
    rw[List.take_set,List.drop_set_of_lt (by omega)]
    simp only[List.length_cons]
    rw[show o+1+r.length=o+(r.length+1) by omega]
    congr 1
    rw[Sy j,List.set_append_right _ _ (by rw[RV];omega)]
    have c:o<cur.size:=by omega
    simp[Nat.min_eq_left (Nat.le_of_lt c)]
end
section
variable {P:Program}
end
namespace Kd
def Q{α:Type}(d:Kd α)(e:Nat)(w:World)(base:Nat)(ok:Nat->Prop)(v:Value)(xs:List α):Prop :=
  (∀k,v.ownBlock=some k->ok k)∧∃inner,Q2 w base e d.sz v xs.length inner∧Bn (d.M w base (λk=>ok k∧some k≠v.ownBlock)) d.sz xs inner
section
variable {α:Type} {d:Kd α} {e:Nat} {w w1 W:World} {base:Nat} {ok Fi:Nat->Prop} {v:Value} {xs:List α}
end
section
variable {P:Program} {ops:Array Oper} {rest:List Oper} {o:Oper} {a:Act} {Q':Exit->Act->World->Prop} {Kc:Act->World->Prop} {α:Type}
end
end Kd
namespace Kd
section
variable {α:Type} {d:Kd α} {e e':Nat} {w w1 W:World} {base:Nat} {ok:Nat->Prop} {u v:Value} {xs:List α}
theorem Ca(h:d.R e w base ok v xs):∀k,v.ownBlock=some k->∃cells,w.heap[k]?=some (.cells cells e (0,0)):=by obtain⟨inner,b⟩:=Kq h;exact λk a=>GJ b k a
theorem DL(h:d.R e W base ok u xs)(g:∀k,v.ownBlock=some k->∃cells,W.heap[k]?=some (.cells cells e' (0,0)))(l:∀q,q∈e::d.E->q≠e')(hg:W.grownBy w1 v.ownBlock):d.R e w1 base ok u xs:=by refine Ai (Ib (C4 h) (λk c=>hg.block k c.2.2.1 (λhe=>?_))) (λ_ c=>c.1);obtain⟨_,_,_,q,j,cells,i⟩:=c;obtain⟨b,a⟩:=g k he.symm;rw[i]at a;injection a with a;injection a with _ a;exact l q j a
theorem BE(h:d.R e W base ok u xs)(c:∀k,v.ownBlock=some k->∃cells,W.heap[k]?=some (.cells cells e' (0,0)))(l:∀q,q∈e::d.E->q≠e'):d.R e W base (λk=>ok k∧some k≠v.ownBlock) u xs:=by refine Ai (C4 h) (λk g=>⟨g.1,λhe=>?_⟩);obtain⟨_,_,_,q,j,cells,i⟩:=g;obtain⟨b,a⟩:=c k he.symm;rw[i]at a;injection a with a;injection a with _ a;exact l q j a
theorem Dq(hu:d.R e W base ok u xs)(a:∀k,v.ownBlock=some k->W.heap.size≤k)(c:Below W.heap.size W w1):d.R e w1 base (λk=>ok k∧some k≠v.ownBlock) u xs :=
  Ai (Ib (C4 hu) (λk b=>c.block k b.2.2.1)) (λk b=>⟨b.1,λhe=>by have:=a k he.symm;have:=b.2.2.1;omega⟩)
theorem Et(h:d.R e w1 W.heap.size ok v xs)(a:∀k,u.ownBlock=some k->k<W.heap.size):d.R e w1 W.heap.size (λk=>ok k∧some k≠u.ownBlock) v xs :=
  Ai (C4 h) (λk b=>⟨b.1,λhe=>by have:=a k he.symm;have:=b.2.1;omega⟩)
theorem Fk(a:∀k,u.ownBlock=some k->k<W.heap.size):∀k,W.heap.size≤k->some k≠u.ownBlock:=λk b he=>by have:=a k he.symm;omega
end
end Kd
theorem Jv{n c g:Nat}{A:Option Addr}(a:some g≠(Value.slice A n c).ownBlock):∀ad,A=some ad->0<n->ad.block≠g:=by rintro ad rfl _ rfl;exact a (by simp[Value.ownBlock])
theorem H4{α:Type}(a seg:List α)(o:Nat)(h:o+seg.length≤a.length)(q:Nat) :
    (a.take o++seg++a.drop (o+seg.length))[q]?=if q<o then a[q]? else if q<o+seg.length then seg[q-o]? else a[q]?:=by
 have hl:(a.take o).length=o:=by rw[RV];omega
 rw[Tk];by_cases h1:q<o
 ·rw[Ry h1,SB (by omega),Sm,Ry h1]
 rw[Rz h1,SE (by omega),hl];by_cases b:q<o+seg.length
 ·rw[Ry b,SB (by omega)]
 rw[Rz b,SE (by omega),Sq];congr 1;omega
namespace Kd
section
variable {α:Type} {d:Kd α} {e base g n cap:Nat} {ok okp:Nat->Prop} {W:World} {xs:List α}
theorem GW(h:d.R e W base ok (.slice (some ⟨g,0,none⟩) n cap) xs)(z:α)(i:Int)(h0:0≤i)(h1:i<n) :
    ∃c,c.length=d.sz∧d.M W base (λk=>ok k∧k≠g) (xs.getD i.toNat z) c∧(∀j u,c[j]?=some u->W.cell? ⟨g,i.toNat*d.sz+j,none⟩=some u)∧∀j,W.frozen? ⟨g,i.toNat*d.sz+j,none⟩=false:=by
 obtain⟨v,r,t⟩:=At h;obtain⟨_,inner,l,m⟩:=h;have a:i.toNat<xs.length:=by omega
 have o:i.toNat*d.sz+d.sz≤inner.length:=by rw[m.1,<-SS];exact Ss _ a
 have p:=m.2 i.toNat _ (RD a);refine⟨(inner.drop (i.toNat*d.sz)).take d.sz,by rw[RV,R9];omega,?_,λj u hu=>?_,λj=>?_⟩
 ·rw[RS,RD a];exact d.Cv (λk b=>⟨b.1,λhe=>b.2 (by rw[he];simp[Value.ownBlock])⟩) p
 ·rw[Sm]at hu;split at hu
  ·rw[Sq]at hu;have:=l.cells (g:=g) (by simp[Value.ownBlock]) _ u hu;rwa[add_plain]at this
  cases hu
 obtain⟨cells,q⟩:=GJ l g (by simp[Value.ownBlock]);exact BU q _
theorem Lv(h:d.R e W base ok (.slice (some ⟨g,0,none⟩) n cap) xs)(i:Int)(h0:0≤i)(h1:i<n){c seg:List Value}{j:Nat}(af:c.length=d.sz)(L:∀j u,c[j]?=some u->W.cell? ⟨g,i.toNat*d.sz+j,none⟩=some u)
    (hj:j+seg.length≤d.sz){x':α}(hM:d.M W base okp x' (c.take j++seg++c.drop (j+seg.length)))(o:∀k,okp k->ok k∧k≠g) :
    d.R e (W.setCells g (i.toNat*d.sz+j) seg) base ok (.slice (some ⟨g,0,none⟩) n cap) (xs.set i.toNat x')∧W.grownBy (W.setCells g (i.toNat*d.sz+j) seg) (some g):=by
 obtain⟨v,E,_⟩:=At h;obtain⟨aa,inner,ho,w⟩:=h;have T:i.toNat<xs.length:=by omega
 have t:i.toNat*d.sz+d.sz≤inner.length:=by rw[w.1,<-SS];exact Ss _ T
 have ag:inner.length=n*d.sz:=by rw[w.1,v]
 obtain⟨ah,Z⟩:=ho;rcases Z with⟨hv,_⟩|⟨g',ab,cur,hv,hb,hh,ae,M,O,ht⟩
 ·cases hv
 injection hv with K _ hc;injection K with K;injection K with hg;subst hg;subst hc;have A:i.toNat*d.sz+j+seg.length≤cur.size:=by have:n*d.sz≤cap*d.sz:=Ss _ E;omega
 obtain⟨x,h3,h4,h5⟩:=H6 seg (i.toNat*d.sz+j) W cur hh A;obtain⟨s1,s2,s3,s4⟩:=GP g seg (i.toNat*d.sz+j) W;have l:∀k,k≠g->(W.setCells g (i.toNat*d.sz+j) seg).heap[k]?=W.heap[k]?:=λk r=>H5 seg _ k r
 -- the element's cells before are what was read
 have y:∀q,q<d.sz->c[q]?=inner[i.toNat*d.sz+q]?:=by
  intro q b;have G:q<c.length:=by omega
  have h6:=L q _ (RD G);rw[cell_of_row W g _ cur e (0,0) hh]at h6;rw[RD G,<-h6,<-ht,Sm,Ry (by rw[<-v];omega),Array.getElem?_toList]
 refine⟨⟨aa,inner.take (i.toNat*d.sz+j)++seg++inner.drop (i.toNat*d.sz+j+seg.length),⟨?_,.inr ⟨g,cap,x,by rw[Si,v],hb,h3,by rw[Si,<-v];exact E,M,by rw[h4,O],?_⟩⟩,?_⟩,
   ⟨s1,s2,s3,by rw[s4];exact RB _,λk _ r=>l k (λhe=>r (by rw[he]))⟩⟩
 ·rw[Si];simp only[List.length_append,List.length_take,List.length_drop];rw[w.1]at t⊢;omega
 ·rw[Si,<-v];apply S9
  intro q;rw[Sm,h5];rw[H4 cur.toList seg (i.toNat*d.sz+j) (by rw[TJ];omega) q,H4 inner seg (i.toNat*d.sz+j) (by omega) q];have z:∀q,q<n*d.sz->cur.toList[q]?=inner[q]?:=by intro q b;rw[<-ht,Sm,Ry (by rw[<-v];exact b)]
  by_cases b:q<n*d.sz
  ·rw[Ry b,z q b]
  rw[Rz b,Rz (by omega),Rz (by omega),SC (by omega)]
 refine⟨?_,λm p hm=>?_⟩
 ·rw[Si];simp only[List.length_append,List.length_take,List.length_drop];rw[w.1]at t⊢;omega
 have Y:m<xs.length:=by have:=(RL.1 hm).1;rwa[Si]at this
 have X:m*d.sz+d.sz≤inner.length:=by rw[w.1,<-SS];exact Ss _ Y
 have B:some g=(Value.slice (some ⟨g,0,none⟩) n cap).ownBlock:=by simp[Value.ownBlock]
 by_cases D:m=i.toNat
 ·subst D;rw[RC (by omega)]at hm;injection hm with hm;subst hm
  have a:((inner.take (i.toNat*d.sz+j)++seg++inner.drop (i.toNat*d.sz+j+seg.length)).drop (i.toNat*d.sz)).take d.sz=c.take j++seg++c.drop (j+seg.length):=by
   apply S9
   intro q;rw[Sm,Sq,H4 inner seg _ (by omega),H4 c seg j (by omega) q];by_cases b:q<d.sz
   ·rw[Ry b,y q b];by_cases I:q<j
    ·rw[Ry (by omega),Ry I]
    rw[Rz (by omega),Rz I];by_cases J:q<j+seg.length
    ·rw[Ry (by omega),Ry J];congr 1;omega
    rw[Rz (by omega),Rz J]
   rw[Rz b,Rz (by omega),Rz (by omega),SC (by omega)]
  rw[a];refine d.Cv (λk r=>?_) (d.DF (w1:=W.setCells g (i.toNat*d.sz+j) seg) (λk r=>l k (o k r).2) hM);exact⟨(o k r).1,λhe=>(o k r).2 (by rw[<-B]at he;injection he)⟩
 rw[Tm (by omega)]at hm;have hold:=w.2 m p hm
 have a:((inner.take (i.toNat*d.sz+j)++seg++inner.drop (i.toNat*d.sz+j+seg.length)).drop (m*d.sz)).take d.sz=(inner.drop (m*d.sz)).take d.sz:=by
  apply S9
  intro q;rw[Sm,Sm,Sq,Sq,H4 inner seg _ (by omega)];by_cases b:q<d.sz
  ·rw[Ry b,Ry b];rcases Nat.lt_or_gt_of_ne D with U|P
   ·have:m*d.sz+d.sz≤i.toNat*d.sz:=by rw[<-SS];exact Ss _ U
    rw[Ry (by omega)]
   have:i.toNat*d.sz+d.sz≤m*d.sz:=by rw[<-SS];exact Ss _ P
   rw[Rz (by omega),Rz (by omega)]
  rw[Rz b,Rz b]
 rw[a];refine d.DF (λk r=>l k (λhe=>r.2 (by rw[he];exact B))) hold
end
end Kd
namespace Kd
section
variable {α:Type} {F:Kd α->Kd α} {sz:Nat} {E:List Nat} {hs:∀ n,(upto F sz E n).sz=sz} {hE:∀ n q,q∈(upto F sz E n).E->q∈E}
end
end Kd
namespace Kd
theorem Iw{α:Type}{R:α->List Value->Prop}{size:Nat}{ps e:List α}{cs ds:List Value}(h:Bn R size ps cs)(d:Bn R size e ds):Bn R size (ps++e) (cs++ds):=by
 refine⟨by rw[Sc,Sc,h.1,d.1,Nat.add_mul],λj p c=>?_⟩;rcases SG j ps.length with b|a
 ·rw[SB b]at c;have hle:j*size+size≤cs.length:=by rw[h.1,<-SS];exact Ss _ b
  rw[TD (by omega),Te (by rw[R9];omega)];exact h.2 j p c
 rw[SE a]at c;have g:=d.2 (j-ps.length) p c;have hle:ps.length*size≤j*size:=Ss _ a;rw[List.drop_append,Sb (by rw[h.1];exact hle),SZ,h.1,<-Nat.sub_mul];exact g
section
variable {P:Program} {ops:Array Oper} {rest:List Oper} {o:Oper} {a:Act} {Q:Exit->Act->World->Prop} {α:Type}
theorem Cn(d:Kd α){Rr:α->List Value->Prop}{w0 W:World}(base:Nat)(ab:o.guard=none)(s x:Operand)(t e:TypeId)(z:Value)(bytes:Nat)
    (L:o.op=.call { callee:=.builtin .append,args:=#[s,x],argTypes:=#[t,t] })
    (ht:P.underlying t=some (.slice e))(G:(P.info? e).map (λi=>(i.zero,i.size,i.bytes))=some (some z,d.sz,bytes))(hz:z.cells.size=d.sz)(J:0<d.sz)(aa:0<bytes)
    (v:Value)(xs ys:List α)(A:Option Addr)(m c:Nat)(ok okp:Nat->Prop)(hs:a.eval s=v)(hx:a.eval x=.slice A m c)
    (HO:d.R e W base ok v xs)(X:C0 Rr d.sz W A m ys)(Y:∀x cs,Rr x cs->d.M W base okp x cs)(O:∀k,okp k->ok k∧some k≠v.ownBlock)(B:∀k,W.heap.size≤k->ok k)
    (HB:Below base w0 W)(w:base≤W.heap.size)(hl:(xs.length+m)*bytes≤140737488355328)
    (h:∀v1 w1,d.R e w1 base ok v1 (xs++ys)->Below base w0 w1->W.grownBy w1 v.ownBlock->(v1.ownBlock=v.ownBlock∨∃b,v1.ownBlock=some b∧W.heap.size≤b)->wpList P ops Q rest (a.put o.dst v1) w1) :
    wpList P ops Q (o::rest) a W:=by
 obtain⟨i0,hi,U⟩:=Sz.1 G;simp only[Prod.mk.injEq]at U;obtain⟨ai,aj,ak⟩:=U;have hm:ys.length=m:=X.1;have hlen:xs.length+m≤140737488355328:=RJ (SY _ aa) hl;obtain⟨M,inner,n,hr⟩:=HO
 have y:∃v1 w1,(Builtin.append_ #[t,t] o.type #[v,.slice A m c]).run P W=.ok v1 w1∧d.R e w1 base ok v1 (xs++ys)∧W.grownBy w1 v.ownBlock∧(v1.ownBlock=v.ownBlock∨∃b,v1.ownBlock=some b∧W.heap.size≤b):=by
  rcases A with _|ad
  ·have h0:m=0:=by
    rcases S6 m with h0|h0
    ·exact h0
    obtain⟨ad,h,_⟩:=X.2.2 h0;cases h
   subst h0;obtain rfl:ys=[]:=Td hm;refine⟨v,W,?_,by rw[Tr];exact⟨M,inner,n,hr⟩,World.grownBy.refl W _,.inl rfl⟩;rcases n.2 with⟨rfl,hn⟩|⟨g,cap,cur,rfl,_,_,I,_⟩
   ·simp[Builtin.append_,run_underlying ht,sizeOf,typeInfo,hi,Builtin.lenOf,Builtin.firstCells]
   simp[Builtin.append_,run_underlying ht,sizeOf,typeInfo,hi,Builtin.lenOf,Builtin.firstCells,I,storeCells]
  obtain⟨news,af,I⟩:=C0.Lb X;have D:Bn (d.M W base okp) d.sz ys news:=af.Ga (λp c hp=>Y p c hp)
  have T:∀u∈news,u.oneCell'=true:=by
   intro u hu;obtain⟨q,E,rfl⟩:=List.mem_iff_getElem.1 hu;have ag:q / d.sz<ys.length:=by rw[Nat.div_lt_iff_lt_mul J];rw[<-D.1];exact E
   have hc:=D.2 (q / d.sz) _ (RD ag);refine d.D7 (d.C_ hc) _ ?_;rw[List.mem_iff_getElem?];refine⟨q % d.sz,?_⟩;rw[Sm,Ry (Nat.mod_lt _ J),Sq,Nat.mul_comm,Nat.div_add_mod,RD E]
  obtain⟨v1,w1,y,h2,hg,_,j⟩:=TV (P:=P) W base t o.type e i0 z d.sz bytes ht hi ai aj ak hz J v xs.length inner n ad m c news (by rw[D.1,hm]) I T (by simp only[maxLen];omega) hl w
  have r:v1.ownBlock=v.ownBlock∨∃b,v1.ownBlock=some b∧W.heap.size≤b:=by
   rcases j with j|j
   ·exact .inl j
   exact .inr ⟨_,j,RB _⟩
  have ae:∀k,some k≠v.ownBlock->k<W.heap.size->some k≠v1.ownBlock:=by
   intro k l al;rcases r with j|⟨b,Z,hle⟩
   ·rw[j];exact l
   rw[Z];intro he;injection he with he;omega
  have step:∀{q:α} {c:List Value} {o:Nat->Prop},d.M W base o q c->(∀k,o k->ok k∧some k≠v.ownBlock)->d.M w1 base (λk=>ok k∧some k≠v1.ownBlock) q c:=by intro q c o E L;have h1:=d.DF (w1:=w1) (λk l=>hg.block k l.2.2.1 (L k l.1).2) (d.Db E);exact d.Cv (λk l=>⟨(L k l.1).1,ae k (L k l.1).2 l.2.2.1⟩) h1
  refine⟨v1,w1,y,⟨λk l=>?_,inner++news,by rw[Sc,hm];exact h2,Iw (hr.Ga (λ_ _ E=>step E (λ_ l=>l))) (D.Ga (λ_ _ E=>step E O))⟩,hg,r⟩;rcases r with j|⟨b,Z,hle⟩
  ·exact M k (j ▸ l)
  rw[Z]at l;injection l with l;exact B k (by omega)
 obtain⟨v1,w1,ah,h1,hg,j⟩:=y;refine T2 ab λK hK=>?_
 unfold Oper.wp execOp;simp only[L,resolve,invoke,builtin,Sem.run_bind,Sem.run_pure,Result.andThen_ok,List.map_toArray,List.map_cons,List.map_nil,hs,hx,ah];exact hK _ _ (h v1 w1 h1 (HB.grown hg w (FJ n)) hg j)
end
end Kd
namespace Kd
section
variable {P:Program} {ops:Array Oper} {rest:List Oper} {o:Oper} {a:Act} {Q:Exit->Act->World->Prop} {α:Type}
end
end Kd
theorem add_add(a:Addr)(i j:Nat):(a.add i).add j=a.add (i+j):=by unfold Addr.add;by_cases h1:i=0 <;> by_cases b:j=0 <;> simp[h1,b,Nat.add_assoc]
namespace Kd
section
variable {α:Type} {k:Kd α} {w:World} {A:Option Addr} {xs:List α} {m c:Nat}
theorem GU(h:k.C w A xs.length xs)(hm:m≤xs.length):k.C w A (xs.take m).length (xs.take m):=by
 have hl:(xs.take m).length=m:=by rw[RV];omega
 refine⟨rfl,by rw[hl];have:=h.2.1;omega,λc=>?_⟩;obtain⟨ad,e,b⟩:=h.2.2 (by omega);refine⟨ad,e,λj p a=>b j p ?_⟩;rw[Sm]at a;split at a
 ·exact a
 cases a
theorem JK(h:k.C w A xs.length xs)(hm:m≤xs.length)(g:xs.length≤c):k.C w (if c=m then A else A.map (·.add (m*k.sz))) (xs.drop m).length (xs.drop m):=by have hl:(xs.drop m).length=xs.length-m:=R9;refine⟨rfl,by rw[hl];have:=h.2.1;omega,λe=>?_⟩;rw[hl]at e;obtain⟨ad,rfl,a⟩:=h.2.2 (by omega);rw[Rz (by omega)];refine⟨ad.add (m*k.sz),rfl,λj p b=>?_⟩;rw[Sq]at b;obtain⟨cs,h1,d,h3⟩:=a (m+j) p b;refine⟨cs,h1,d,λi u hu=>?_⟩;rw[add_add,show m*k.sz+(j*k.sz+i)=(m+j)*k.sz+i by rw[Nat.add_mul];omega];exact h3 i u hu
theorem OK{lo hi:Nat}(h:k.C w A xs.length xs)(h1:lo≤hi)(a:hi≤xs.length)(b:xs.length≤c):k.C w (if c=lo then A else A.map (·.add (lo*k.sz))) ((xs.take hi).drop lo).length ((xs.take hi).drop lo):=by
 have hl:(xs.take hi).length=hi:=by rw[RV];omega
 exact JK (GU h a) (by omega) (by omega)
end
end Kd
section
variable {P:Program}
theorem LK(t e:TypeId)(k j:IntKind){i:TypeInfo}(g:P.underlying t=some (.slice e))(hi:P.info? e=some i)(size:Nat)(d:i.size=size)(A:Option Addr)(n c:Nat)(lo a:Int)(h0:0≤lo)(h1:lo≤a)(l:a≤n)(m:n≤c) :
    ∀W:World,(Instr.slice t (.slice A n c) (some (.int k lo)) (some (.int j a)) none).run P W=.ok (.slice (if c=lo.toNat then A else A.map (·.add (lo.toNat*size))) (a.toNat-lo.toNat) (c-lo.toNat)) W:=by
 intro W;have b:P.elem t=e:=by simp[Program.elem,g]
 have hu:P.underlying t=some (.slice (P.elem t)):=by rw[b];exact g
 rw[run_slice_lh W t A n c hu k j lo a h0 h1 (by omega),b];simp[sizeOf,typeInfo,hi,d,sliced,Result.andThen]
end
theorem Af{w W:World}(h:Below w.heap.size w W):w.heap.size≤W.heap.size:=h.size
theorem IY{w W a:World}(h:Below w.heap.size w W)(k:Below W.heap.size W a):Below w.heap.size w a:=K6 h h.size k
theorem Fa.nil(W:World)(k:IntKind):Fa W k none ([]:List Int).length []:=⟨rfl,by simp,λh=>absurd h (TC 0)⟩
theorem Fa.ofRow{k:IntKind}{w:World}{a:Option Addr}{len cap:Nat}{zs:List Int}(h:(a=none∧len=0∧cap=0∧zs=[])∨∃x,a=some x∧len≤cap∧cap≤maxLen∧zs.length=cap∧(∀i,i<zs.length->w.cell? (x.add i)=some (.int k (zs.getD i 0)))∧∀n∈zs,(Lit.int k n).wf=true) :
    ∃l:List Int,len=l.length∧Fa w k a l.length l∧l.length≤maxLen∧∀x∈l,(Lit.int k x).wf=true:=by
 rcases h with⟨rfl,rfl,rfl,rfl⟩|⟨x,rfl,hl,hm,hz,d,hw⟩
 ·exact⟨[],rfl,Fa.nil _ _,Nat.zero_le _,λx g=>by simp at g⟩
 have e:(zs.take len).length=len:=by simp;omega
 have b:len≤maxLen:=RJ hl hm;refine⟨zs.take len,e.symm,⟨rfl,by rw[e];simpa[maxLen]using b,λ_=>⟨x,rfl,λj c=>?_⟩⟩,by rw[e];exact b,λy m=>hw y (SA m)⟩;rw[e]at c;rw[d j (by omega)];simp[List.getD,List.getElem?_take,c]
theorem DK{w W:World}{g j:Nat}{v:Value}(h:Below w.heap.size w W)(hg:w.heap.size≤g):Below w.heap.size w (W.setCell ⟨g,j,none⟩ v):=h.setCell hg _
theorem I2{w W:World}{g:Nat}{row:Option Nat}(h:Ah w W g row)(m:Nat):Ah w (W.drewN m) g row:=h
theorem Mm{w W:World}{g:Nat}(h:Ah w W g none){a:Addr}{v:Value}(c:w.cell? a=some v)(b:a.block≠g):W.cell? a=some v:=by have:=h.2 a.block (Tc w a c) b (by simp);simpa[World.cell?,this]using c
theorem FB(a:Addr)(i:Nat):(a.add i).block=a.block:=by unfold Addr.add;split <;> rfl
theorem F_{w0 w w1:World}{B:Nat}(h:Below w0.heap.size w0 w)(hB:w0.heap.size≤B)(k:Below B w w1):Below w0.heap.size w0 w1 :=
  h.trans ⟨k.os,k.tape,k.output,k.size,λi hi=>k.block i (R_ hi hB)⟩
theorem Ms{w:World}{base:Nat}{e:TypeId}{size n:Nat}{v:Value}{xs:List Value}(h:w.ownsRow base e size v n xs):v.ownBlock=none∨∃b,v.ownBlock=some b∧base≤b:=by
 cases a:v.ownBlock with
 | none=>exact .inl rfl
 | some b=>exact .inr ⟨b,rfl,FJ h b a⟩
theorem Cw{w W:World}{g:Nat}{row:Option Nat}(h:Ah w W g row):w.heap.size≤W.heap.size:=h.1
theorem M0{W:World}{p a:Addr}(h:a.block≠p.block)(u:Value):(W.setCell p u).cell? a=W.cell? a:=by have:=Su W p u a.block h;simp[World.cell?,this]
theorem BF{w:World}{g:Nat}{t:TypeId}{cs a:Array Value}(h:w.heap[g]?=some (.cells cs t (0,0)))(i:Nat)(u:Value)(e:cs.setIfInBounds i u=a):(w.setCell ⟨g,i,none⟩ u).heap[g]?=some (.cells a t (0,0)):=e ▸ Fm h i u
theorem Nn{w W:World}{g:Nat}{row:Option Nat}(h:Ah w W g row){p:Addr}(b:w.heap.size≤p.block)(u:Value):Ah w (W.setCell p u) g row :=
  ⟨by simpa[World.setCell]using h.1,λi hi hg a=>(Su W p u i (by omega)).trans (h.2 i hi hg a)⟩
theorem Fa.PS{k:IntKind}{w:World}{a:Option Addr}{len cap:Nat}{zs:List Int}(h:(a=none∧len=0∧cap=0∧zs=[])∨∃x,a=some x∧len≤cap∧cap≤maxLen∧zs.length=cap∧(∀i,i<zs.length->w.cell? (x.add i)=some (.int k (zs.getD i 0)))∧∀n∈zs,(Lit.int k n).wf=true) :
    ∃l:List Int,len=l.length∧Fa w k a l.length l∧l.length≤maxLen∧(∀x∈l,(Lit.int k x).wf=true)∧l.length≤cap:=by
 have hl:len≤cap:=by
  rcases h with⟨_,rfl,rfl,_⟩|⟨_,_,h,_⟩
  ·exact RB _
  exact h
 obtain⟨l,e,h1,b,h3⟩:=Fa.ofRow h;exact⟨l,e,h1,b,h3,e ▸ hl⟩
theorem Ay{base:Nat}{w W:World}(h:Below base w W):Below base w W.drew:=h.drew
theorem GH{w W:World}{g:Nat}{row:Option Nat}(h:Ah w W g row):Ah w W.drew g row:=h
namespace Kd
section
variable {α β:Type} {d:Kd α} {d':Kd β} {e e' base Ew n:Nat} {ok Fi:Nat->Prop} {w W w1 W1:World} {v u:Value} {xs:List α} {ys:List β} {A:Option Addr} {c:Nat}
theorem Hd(h:d.R e w base ok v xs):v.ownBlock=none∨∃k,v.ownBlock=some k∧base≤k:=by obtain⟨inner,a⟩:=Kq h;exact Ms a
end
section
variable {α:Type} {enc:α->Value} {h1:∀ x,(enc x).oneCell'=true} {w W:World} {A:Option Addr} {n g:Nat} {xs:List α}
end
end Kd
namespace Kd
section
variable {α:Type} {d:Kd α} {e base g:Nat} {ok:Nat->Prop} {w w1:World} {v:Value} {xs:List α} {o:Obj}
theorem Kp(h:d.R e w base ok v xs)(a:Nat)(c:w.heap.size≤a):d.R e w base (λk=>ok k∧k≠a) v xs:=Ai (C4 h) (λk b=>⟨b.1,by have:=b.2.2.1;omega⟩)
theorem IW(h:d.R e w1 w.heap.size ok v xs)(b:w.heap[g]?=some o):d.R e w1 w.heap.size (λk=>ok k∧k≠g) v xs:=Ai (C4 h) (λk a=>⟨a.1,by have:=Av b;have:=a.2.1;omega⟩)
theorem Dk(a:w.heap[g]?=some o):∀k,w.heap.size≤k->k≠g:=λk b=>by have:=Av a;omega
end
end Kd
section
variable {P:Program} {ops:Array Oper} {rest:List Oper} {o:Oper} {a:Act} {Q:Exit->Act->World->Prop}
theorem Gz{W:World}(c:o.guard=none){N:Tmp}(_hd:o.dst=some N){cs:Array Value}{t:TypeId}
    (b:(execOp a.eval o).run P W=.ok (.value (.pointer (some ⟨W.heap.size,0,none⟩))) (W.alloc (.cells cs t (0,0))))
    (h:∀g,g=W.heap.size->∀w1,w1.heap[g]?=some (.cells cs t (0,0))->Below W.heap.size W w1->wpList P ops Q rest (a.put o.dst (.pointer (some ⟨g,0,none⟩))) w1):wpList P ops Q (o::rest) a W :=
  Kd.Ju c b (h _ rfl _ (EW W _) (FT (RG _ _) _))
end
namespace Kd
section
variable {α:Type} {enc:α->Value} {h1:∀ x,(enc x).oneCell'=true} {e base g n cap:Nat} {ok:Nat->Prop} {W:World} {xs:List α}
theorem Lu(d:α)(h:(scalar enc h1).R e W base ok (.slice (some ⟨g,0,none⟩) n cap) xs)(i:Int)(h0:0≤i)(hi:i<n):W.cell? ⟨g,i.toNat,none⟩=some (enc (KI d xs i))∧W.frozen? ⟨g,i.toNat,none⟩=false:=by obtain⟨rfl,_⟩:=At h;exact Pt d h i h0 hi
end
end Kd
section
variable {P:Program} {ops:Array Oper} {rest:List Oper} {o:Oper} {a:Act} {Q:Exit->Act->World->Prop}
theorem CY{W w1:World}(c:o.guard=none){t:TypeId}{p:Tmp}{v:Operand}(_ho:o.op=.store t (.tmp p) v)(hN:o.dst=none)
    (b:(execOp a.eval o).run P W=.ok .skip w1)(h:∀w',w'=w1->wpList P ops Q rest a w'):wpList P ops Q (o::rest) a W:=by
 refine T2 c λK hK=>?_
 unfold Oper.wp;rw[b];show K (a.put o.dst undef) w1;rw[hN];exact hK _ _ (h _ rfl)
end
namespace Kd
section
variable {α:Type} {enc:α->Value} {h1:∀ x,(enc x).oneCell'=true} {e base g n cap:Nat} {ok:Nat->Prop} {W:World} {xs:List α}
theorem Px(h:(scalar enc h1).R e W base ok (.slice (some ⟨g,0,none⟩) n cap) xs)(i:Int)(x:α):(scalar enc h1).R e (W.setCell ⟨g,i.toNat,none⟩ (enc x)) base ok (.slice (some ⟨g,0,none⟩) n cap) (xs.set i.toNat x)∧W.grownBy (W.setCell ⟨g,i.toNat,none⟩ (enc x)) (some g):=by obtain⟨rfl,_⟩:=At h;exact Qm h i x
end
end Kd
section
variable {P:Program} {ops:Array Oper} {rest:List Oper} {o:Oper} {a:Act} {Q:Exit->Act->World->Prop} {W:World}
theorem BV{N:Tmp}(_hN:o.dst=some N)(h:wpList P ops Q (o::rest) a W):wpList P ops Q (o::rest) a W:=h
theorem Dc{t:TypeId}{p:Tmp}{v:Operand}(_ho:o.op=.store t (.tmp p) v)(h:wpList P ops Q (o::rest) a W):wpList P ops Q (o::rest) a W:=h
end
section
variable {P:Program} {ops:Array Oper} {o:Oper} {a:Act} {Q:Exit->Act->World->Prop} {Kc:Act->World->Prop}
theorem K9{W w1:World}{v:Value}(hw:Region.wanted o (yielded ops a.tmps)=true)(b:(execOp a.eval o).run P W=.ok (.value v) w1)(h:Kc (a.put o.dst v) w1):if Region.wanted o (yielded ops a.tmps)=true then Oper.wp P o a W Kc Q else Kc (a.put o.dst undef) W:=by rw[Ry hw];unfold Oper.wp;rw[b];exact h
namespace Kd
variable {α:Type}
theorem DU(d:Kd α){w0 W:World}(base e:Nat)(hw:Region.wanted o (yielded ops a.tmps)=true){N:Tmp}(_hd:o.dst=some N){xs:List α}{inner:List Value}{ok okp:Nat->Prop}
    (l:(execOp a.eval o).run P W=.ok (.value (.slice (some ⟨W.heap.size,0,none⟩) xs.length xs.length)) (W.alloc (.cells inner.toArray e)))
    (j:Bn (d.M W base okp) d.sz xs inner)(n:∀k,okp k->ok k)(i:ok W.heap.size)(HB:Below base w0 W)(g:base≤W.heap.size)(hm:xs.length≤9223372036854775807)
    (h:∀v1 w1,d.R e w1 base ok v1 xs->Below base w0 w1->W.grownBy w1 none->(∃b,v1.ownBlock=some b∧W.heap.size≤b)->Kc (a.put o.dst v1) w1):if Region.wanted o (yielded ops a.tmps)=true then Oper.wp P o a W Kc Q else Kc (a.put o.dst undef) W:=by
 refine K9 hw l (h _ _ ⟨λk m=>?_,inner,?_,?_⟩ (HB.alloc g _) (Tq W _ none) ⟨W.heap.size,by simp[Value.ownBlock],RB _⟩)
 ·have:W.heap.size=k:=by simpa[Value.ownBlock]using m
  subst this;exact i
 ·have q:=World.ownsRow_lit (base:=base) (e:=e) (size:=d.sz) W inner.toArray xs.length g (by simpa[maxLen]using hm) (by simpa using j.1);simpa using q
 refine j.Ga (λp c r=>d.Cv (λk m=>⟨n k m.1,λhe=>?_⟩) (Ls (d.Db r) (FT (RG _ _) _)));have h3:k=W.heap.size:=by simpa[Value.ownBlock]using he
 have:=m.2.2.1;omega
theorem Cb(d:Kd α){Rr:α->List Value->Prop}{w0 W:World}(base:Nat)(hw:Region.wanted o (yielded ops a.tmps)=true)(s x:Operand)(t e:TypeId)(z:Value)(bytes:Nat)
    (K:o.op=.call { callee:=.builtin .append,args:=#[s,x],argTypes:=#[t,t] })
    (ht:P.underlying t=some (.slice e))(G:(P.info? e).map (λi=>(i.zero,i.size,i.bytes))=some (some z,d.sz,bytes))(hz:z.cells.size=d.sz)(J:0<d.sz)(Z:0<bytes)
    (v:Value)(xs ys:List α)(A:Option Addr)(m c:Nat)(ok okp:Nat->Prop)(hs:a.eval s=v)(hx:a.eval x=.slice A m c)
    (HO:d.R e W base ok v xs)(U:C0 Rr d.sz W A m ys)(X:∀x cs,Rr x cs->d.M W base okp x cs)(M:∀k,okp k->ok k∧some k≠v.ownBlock)(B:∀k,W.heap.size≤k->ok k)
    (HB:Below base w0 W)(w:base≤W.heap.size)(hl:(xs.length+m)*bytes≤140737488355328)
    (h:∀v1 w1,d.R e w1 base ok v1 (xs++ys)->Below base w0 w1->W.grownBy w1 v.ownBlock->(v1.ownBlock=v.ownBlock∨∃b,v1.ownBlock=some b∧W.heap.size≤b)->Kc (a.put o.dst v1) w1) :
    if Region.wanted o (yielded ops a.tmps)=true then Oper.wp P o a W Kc Q else Kc (a.put o.dst undef) W:=by
 obtain⟨i0,hi,T⟩:=Sz.1 G;simp only[Prod.mk.injEq]at T;obtain⟨ag,ah,ai⟩:=T;have hm:ys.length=m:=U.1;have hlen:xs.length+m≤140737488355328:=RJ (SY _ Z) hl;obtain⟨L,inner,n,hr⟩:=HO
 have y:∃v1 w1,(Builtin.append_ #[t,t] o.type #[v,.slice A m c]).run P W=.ok v1 w1∧d.R e w1 base ok v1 (xs++ys)∧W.grownBy w1 v.ownBlock∧(v1.ownBlock=v.ownBlock∨∃b,v1.ownBlock=some b∧W.heap.size≤b):=by
  rcases A with _|ad
  ·have h0:m=0:=by
    rcases S6 m with h0|h0
    ·exact h0
    obtain⟨ad,h,_⟩:=U.2.2 h0;cases h
   subst h0;obtain rfl:ys=[]:=Td hm;refine⟨v,W,?_,by rw[Tr];exact⟨L,inner,n,hr⟩,World.grownBy.refl W _,.inl rfl⟩;rcases n.2 with⟨rfl,hn⟩|⟨g,cap,cur,rfl,_,_,I,_⟩
   ·simp[Builtin.append_,run_underlying ht,sizeOf,typeInfo,hi,Builtin.lenOf,Builtin.firstCells]
   simp[Builtin.append_,run_underlying ht,sizeOf,typeInfo,hi,Builtin.lenOf,Builtin.firstCells,I,storeCells]
  obtain⟨news,ab,I⟩:=C0.Lb U;have D:Bn (d.M W base okp) d.sz ys news:=ab.Ga (λp c hp=>X p c hp)
  have O:∀u∈news,u.oneCell'=true:=by
   intro u hu;obtain⟨q,E,rfl⟩:=List.mem_iff_getElem.1 hu;have ae:q / d.sz<ys.length:=by rw[Nat.div_lt_iff_lt_mul J];rw[<-D.1];exact E
   have hc:=D.2 (q / d.sz) _ (RD ae);refine d.D7 (d.C_ hc) _ ?_;rw[List.mem_iff_getElem?];refine⟨q % d.sz,?_⟩;rw[Sm,Ry (Nat.mod_lt _ J),Sq,Nat.mul_comm,Nat.div_add_mod,RD E]
  obtain⟨v1,w1,y,h2,hg,_,j⟩:=TV (P:=P) W base t o.type e i0 z d.sz bytes ht hi ag ah ai hz J v xs.length inner n ad m c news (by rw[D.1,hm]) I O (by simp only[maxLen];omega) hl w
  have r:v1.ownBlock=v.ownBlock∨∃b,v1.ownBlock=some b∧W.heap.size≤b:=by
   rcases j with j|j
   ·exact .inl j
   exact .inr ⟨_,j,RB _⟩
  have aa:∀k,some k≠v.ownBlock->k<W.heap.size->some k≠v1.ownBlock:=by
   intro k l aj;rcases r with j|⟨b,Y,hle⟩
   ·rw[j];exact l
   rw[Y];intro he;injection he with he;omega
  have step:∀{q:α} {c:List Value} {o:Nat->Prop},d.M W base o q c->(∀k,o k->ok k∧some k≠v.ownBlock)->d.M w1 base (λk=>ok k∧some k≠v1.ownBlock) q c:=by intro q c o E K;have h1:=d.DF (w1:=w1) (λk l=>hg.block k l.2.2.1 (K k l.1).2) (d.Db E);exact d.Cv (λk l=>⟨(K k l.1).1,aa k (K k l.1).2 l.2.2.1⟩) h1
  refine⟨v1,w1,y,⟨λk l=>?_,inner++news,by rw[Sc,hm];exact h2,Iw (hr.Ga (λ_ _ E=>step E (λ_ l=>l))) (D.Ga (λ_ _ E=>step E M))⟩,hg,r⟩;rcases r with j|⟨b,Y,hle⟩
  ·exact L k (j ▸ l)
  rw[Y]at l;injection l with l;exact B k (by omega)
 obtain⟨v1,w1,af,h1,hg,j⟩:=y;rw[Ry hw];unfold Oper.wp execOp;simp only[K,resolve,invoke,builtin,Sem.run_bind,Sem.run_pure,Result.andThen_ok,List.map_toArray,List.map_cons,List.map_nil,hs,hx,af];exact h v1 w1 h1 (HB.grown hg w (FJ n)) hg j
end Kd
end
section
variable {P:Program} {tmps:Array Value} {w:World}
end
namespace Kd
section
variable {P:Program} {α:Type}
end
section
variable {P:Program} {ops:Array Oper} {rest:List Oper} {o:Oper} {a:Act} {Q:Exit->Act->World->Prop} {Kc:Act->World->Prop} {α:Type}
end
end Kd
end Go.Proofs.YtlhlpfnljglhoaaDoorW.PrintWords
end
section
namespace Go.Proofs.YtlhlpfnljglhoaaDoorW.Bb
section
variable {P:Program} {ops:Array Oper} {Q:Exit->Act->World->Prop} {md:Region.Mode} {S:World->Prop} {ds:List Nat}
def Region.Fw(md:Region.Mode)(ops:Array Oper)(i:Nat):Nat->Nat->Bool
  | 0,_=>false
  | fuel+1,d=>match ops[d]? with
    | some o=>o.after.any λe=>Region.binds md e&&(e.on==i || Region.Fw md ops i fuel e.on)
    | none=>false
def Region.Hj(md:Region.Mode)(ops:Array Oper)(listed:Array Bool):Bool :=
  (List.range ops.size).all λj=>!listed.getD j false || match ops[j]? with
    | some o=>o.after.all λe=>!Region.binds md e || listed.getD e.on false
    | none=>true
def Region.LU(md:Region.Mode)(ops:Array Oper)(listed:Array Bool)(ds:List Nat)(i:Nat):Bool :=
  ds.all λd=>listed.getD d true || Region.Fw md ops i ops.size d
def D9(md:Region.Mode)(ops:Array Oper)(listed:Array Bool):Prop :=
  ∀j a,ops[j]?=some a->listed.getD j false=true->∀e∈a.after,Region.binds md e=true->listed.getD e.on false=true
theorem Region.J1{listed:Array Bool}(h:Region.Hj md ops listed=true):D9 md ops listed:=by intro j g b hl e he d;have a:j<ops.size:=(SO.1 b).1;have h1:=Tx.1 h j (List.mem_range.2 a);simp only[hl,b,Bool.not_true,Bool.false_or]at h1;have c:=Array.all_eq_true_iff_forall_mem.1 h1 e he;simpa[d]using c
theorem D9.set{listed:Array Bool}{i:Nat}(h:D9 md ops listed)(hi:i∈Region.ready md ops listed):D9 md ops (listed.setIfInBounds i true):=by
 obtain⟨_,l,c,a⟩:=T0.1 hi;intro j k g hl e he d;by_cases b:i=j
 ·subst b;have:k=l:=S0 (g.symm.trans c);subst this;exact getD_set_true (a e he d)
 rw[getD_set_ne false b]at hl;exact getD_set_true (h j k g hl e he d)
theorem Region.HY{listed:Array Bool}{i:Nat}(c:D9 md ops listed):∀(fuel d:Nat),Region.Fw md ops i fuel d=true->listed.getD d false=true->listed.getD i false=true
  | 0,_,h,_=>by simp[Region.Fw]at h
  | fuel+1,d,h,hl=>by
    unfold Region.Fw at h
    cases b:ops[d]? with
    | none=>rw[b]at h;simp at h
    | some o =>
      rw[b]at h
      obtain⟨e,he,h1⟩:=Array.any_eq_true'.1 h
      simp only[Bool.and_eq_true,Bool.or_eq_true,beq_iff_eq]at h1
      have hle:=c d o b hl e he h1.1
      rcases h1.2 with a|a
      · rw[<-a];exact hle
      · exact Region.HY c fuel e.on a hle
theorem Region.IC{listed:Array Bool}{i d fuel:Nat}(k:D9 md ops listed)(c:Region.Fw md ops i fuel d=true)(a:listed.getD i true=false):d∉Region.ready md ops listed:=by
 intro l;obtain⟨_,o,m,b⟩:=T0.1 l
 have hi:listed.getD i false=true:=by
  cases fuel with
  | zero=>simp[Region.Fw]at c
  | succ n =>
    unfold Region.Fw at c
    rw[m]at c
    obtain⟨e,he,h1⟩:=Array.any_eq_true'.1 c
    simp only[Bool.and_eq_true,Bool.or_eq_true,beq_iff_eq]at h1
    have hle:=b e he h1.1
    rcases h1.2 with j|j
    · rw[<-j];exact hle
    · exact Region.HY k n e.on j hle
 rcases SG i listed.size with g|g
 ·simp[g]at a hi;rw[a]at hi;cases hi
 simp[Array.getElem?_eq_none g]at a
def AB(P:Program)(md:Region.Mode)(ops:Array Oper)(Q:Exit->Act->World->Prop)(S:World->Prop)(ds:List Nat):Nat->Array Bool->Act->World->Prop
  | 0,listed,a,w=>Region.ready md ops listed=[]∧Q .normal a w
  | fuel+1,listed,a,w =>
    (Region.ready md ops listed=[]->Q .normal a w) ∧
    ∀i∈Region.ready md ops listed,wpOp P ops Q i (λa' w'=>(i∉ds->S w->S w')∧AB P md ops Q S ds fuel (listed.setIfInBounds i true) a' w') a w
theorem GQ:∀(fuel:Nat) (listed:Array Bool) (a:Act) (w:World),AB P md ops Q S ds fuel listed a w->wpAny P md ops Q fuel listed a w
  | 0,_,_,_,h=>h
  | fuel+1,_,_,_,h=>⟨h.1,λi hi=>wpOp_mono (λa' w' b=>GQ fuel _ a' w' b.2) (h.2 i hi)⟩
theorem IF{i:Nat}{z:Oper}{v:Value}(hi:ops[i]?=some z)(u:∀(j:Nat) (o:Oper) cs b,ops[j]?=some o->o.op≠.select cs b)
    (X:∀c a w,Q (.panic c) (a.put z.dst v) w->Q (.panic c) a w)(n:Nat) :
    ∀(fuel:Nat) (listed:Array Bool) (a:Act) (w:World),
      (∀j A,ops[j]?=some A->j≠i->listed.getD j true=false->(∀e∈A.after,Region.binds md e=true->e.on≠i)->z.apart ops A=true) ->
      D9 md ops listed->(∀d∈ds,listed.getD d true=false->Region.Fw md ops i n d=true) ->
      i∈Region.ready md ops listed->YieldsIf P ops S z v a->S w ->
      AB P md ops Q S ds fuel (listed.setIfInBounds i true) (a.put z.dst v) w->AB P md ops Q S ds (fuel+1) listed a w:=by
 intro fuel;induction fuel with
 | zero =>
   intro listed a w _ _ _ y I G H
   refine⟨λh=>(by rw[h]at y;cases y),λj B=>?_⟩
   by_cases g:j=i
   · subst g;exact I.wpOp hi G ⟨λ_ h=>h,H⟩
   · have:=TO B g
     rw[H.1]at this
     cases this
 | succ fuel ih =>
   intro listed a w m T U y I G H
   refine⟨λh=>(by rw[h]at y;cases y),λj B=>?_⟩
   by_cases g:j=i
   · subst g;exact I.wpOp hi G ⟨λ_ h=>h,H⟩
   · have h1:=H.2 j (TO B g)
     obtain⟨l,A,x,D⟩:=T0.1 B
     have p:=(T0.1 y).1
     have E:∀e∈A.after,Region.binds md e=true->e.on≠i:=λe he Y heq=>by
       have h1:=D e he Y
       rw[heq]at h1
       rcases SG i listed.size with J|J
       · simp[J]at p h1;rw[p]at h1;cases h1
       · simp[Array.getElem?_eq_none J]at h1
     have L:j∉ds:=λhm=>Region.IC T (U j hm l) p B
     have W:=wpOp_putIf x (m j A x g l E) (λcs b=>u i z cs b hi) (λcs b=>u j A cs b x) X I h1
     have t:∀k ok,ops[k]?=some ok->k≠i->(listed.setIfInBounds j true).getD k true=false ->
         (∀e∈ok.after,Region.binds md e=true->e.on≠i)->z.apart ops ok=true:=λk ok Z M r O=>by
       refine m k ok Z M ?_ O
       by_cases q:j=k
       · subst q;exact l
       · rw[getD_set_ne true q]at r;exact r
     have K:∀d∈ds,(listed.setIfInBounds j true).getD d true=false->Region.Fw md ops i n d=true:=λd hm r=>by
       refine U d hm ?_
       by_cases q:j=d
       · subst q;exact l
       · rw[getD_set_ne true q]at r;exact r
     refine wpOp_mono (λa' w' h3=>⟨h3.2.1,ih (listed.setIfInBounds j true) a' w' t (T.set B) K (TO y (T_ g)) h3.1 (h3.2.1 L G) ?_⟩) W
     rw[TW _ _ g]
     exact h3.2.2
theorem Jo{i:Nat}{t:Oper}{v:Value}(hi:ops[i]?=some t)(p:∀(j:Nat) (o:Oper) cs b,ops[j]?=some o->o.op≠.select cs b)
    (K:∀c a w,Q (.panic c) (a.put t.dst v) w->Q (.panic c) a w) :
    ∀(fuel:Nat) (listed:Array Bool) (a:Act) (w:World),
      (∀j u,ops[j]?=some u->j≠i->listed.getD j true=false->(∀e∈u.after,Region.binds md e=true->e.on≠i)->t.apart ops u=true) ->
      i∈Region.ready md ops listed->Yields P ops t v a ->
      AB P md ops Q S ds fuel (listed.setIfInBounds i true) (a.put t.dst v) w->AB P md ops Q S ds (fuel+1) listed a w:=by
 intro fuel;induction fuel with
 | zero =>
   intro listed a w _ r D H
   refine⟨λh=>(by rw[h]at r;cases r),λj B=>?_⟩
   by_cases d:j=i
   · subst d;exact(D.yieldsIf (S:=λ_=>True)).wpOp hi trivial ⟨λ_ h=>h,H⟩
   · have:=TO B d
     rw[H.1]at this
     cases this
 | succ fuel O =>
   intro listed a w g r D H
   refine⟨λh=>(by rw[h]at r;cases r),λj B=>?_⟩
   by_cases d:j=i
   · subst d;exact(D.yieldsIf (S:=λ_=>True)).wpOp hi trivial ⟨λ_ h=>h,H⟩
   · have h1:=H.2 j (TO B d)
     obtain⟨n,u,q,x⟩:=T0.1 B
     have m:=(T0.1 r).1
     have z:∀e∈u.after,Region.binds md e=true->e.on≠i:=λe he L heq=>by
       have h1:=x e he L
       rw[heq]at h1
       rcases SG i listed.size with E|E
       · simp[E]at m h1;rw[m]at h1;cases h1
       · simp[Array.getElem?_eq_none E]at h1
     have J:=wpOp_put q (g j u q d n z) (λcs b=>p i t cs b hi) (λcs b=>p j u cs b q) K D h1
     have l:∀k ok,ops[k]?=some ok->k≠i->(listed.setIfInBounds j true).getD k true=false ->
         (∀e∈ok.after,Region.binds md e=true->e.on≠i)->t.apart ops ok=true:=λk ok M G A I=>by
       refine g k ok M G ?_ I
       by_cases y:j=k
       · subst y;exact n
       · rw[getD_set_ne true y]at A;exact A
     refine wpOp_mono (λa' w' h3=>⟨h3.2.1,O (listed.setIfInBounds j true) a' w' l (TO r (T_ d)) h3.1 ?_⟩) J
     rw[TW _ _ d]
     exact h3.2.2
theorem Jc{i:Nat}{b:Oper}{v:Value}{fuel:Nat}{listed:Array Bool}{a:Act}{w:World}(hi:ops[i]?=some b)
    (hs:Region.noSelect ops=true)(l:Region.free md ops listed i=true)(m:(Region.ready md ops listed).contains i=true)
    (k:Region.Hj md ops listed=true)(hl:Region.LU md ops listed ds i=true)
    (g:∀c a w,Q (.panic c) (a.put b.dst v) w->Q (.panic c) a w)(n:YieldsIf P ops S b v a)(j:S w)
    (h:AB P md ops Q S ds fuel (listed.setIfInBounds i true) (a.put b.dst v) w):AB P md ops Q S ds (fuel+1) listed a w :=
  IF hi (Region.noSelect_spec hs) g ops.size fuel listed a w (Region.free_spec hi l) (Region.J1 k)
    (λd hm e=>by have:=Tx.1 hl d hm;rw[e]at this;simpa using this) (by simpa using m) n j h
theorem Jn{c:List Nat}{fuel:Nat}{listed:Array Bool}{a:Act}{w:World}(d:Region.ready md ops listed=c)(b:c≠[])
    (h:∀i∈c,wpOp P ops Q i (λa' w'=>(i∉ds->S w->S w')∧AB P md ops Q S ds fuel (listed.setIfInBounds i true) a' w') a w):AB P md ops Q S ds (fuel+1) listed a w :=
  ⟨λh0=>absurd (d ▸ h0) b,d ▸ h⟩
theorem Jb{listed:Array Bool}{a:Act}{w:World}(b:Region.ready md ops listed=[])(h:Q .normal a w) :
    ∀fuel,AB P md ops Q S ds fuel listed a w
  | 0=>⟨b,h⟩
  | _+1=>⟨λ_=>h,by rw[b];simp⟩
theorem Jd{id:Nat}{a:Act}{w:World}(hm:P.follows .mixedOrders=true)
    (h:AB P .any ops Q S ds ops.size (Array.replicate ops.size false) a { w with drawn:=w.drawn+1 }):(Code.region id ops true).wp P Q a w :=
  wp_region_any hm (GQ _ _ _ _ h)
end
section
variable {P:Program} {ops:Array Oper} {Q:Exit->Act->World->Prop} {md:Region.Mode} {S:World->Prop} {ds:List Nat}
def Dg(P:Program)(md:Region.Mode)(ops:Array Oper)(Q:Exit->Act->World->Prop)(S:World->Prop)(ds:List Nat)(fuel:Nat)(listed:Array Bool)(a:Act)(w:World)(b:List Nat):Prop :=
  ∀i∈b,wpOp P ops Q i (λa' w'=>(i∉ds->S w->S w')∧AB P md ops Q S ds fuel (listed.setIfInBounds i true) a' w') a w
theorem Dg.nil{fuel:Nat}{listed:Array Bool}{a:Act}{w:World}:Dg P md ops Q S ds fuel listed a w []:=λ_ h=>by cases h
theorem Dg.cons{fuel:Nat}{listed:Array Bool}{a:Act}{w:World}{i:Nat}{o:Oper}{e:List Nat}(k:ops[i]?=some o)(l:i∉ds)
    (h:∀b:Act->World->Prop,Shut (∀a w,S w->(S w->AB P md ops Q S ds fuel (listed.setIfInBounds i true) a w)->b a w)->if Region.wanted o (yielded ops a.tmps)=true then Oper.wp P o a w b Q else b (a.put o.dst undef) w)
    (hs:Dg P md ops Q S ds fuel listed a w e):Dg P md ops Q S ds fuel listed a w (i::e):=λj c=>by
  rcases Sl.1 c with rfl|c
  · exact wpOp_step k (λb hK=>h b (λa w d g=>hK a w ⟨λ_ _=>d,g d⟩))
  · exact hs j c
theorem Dg.Mh{fuel:Nat}{listed:Array Bool}{a:Act}{w:World}{i:Nat}{o:Oper}{d:List Nat}(l:ops[i]?=some o)(g:i∈ds)
    (h:∀b:Act->World->Prop,Shut (∀a w,AB P md ops Q S ds fuel (listed.setIfInBounds i true) a w->b a w)->if Region.wanted o (yielded ops a.tmps)=true then Oper.wp P o a w b Q else b (a.put o.dst undef) w)
    (hs:Dg P md ops Q S ds fuel listed a w d):Dg P md ops Q S ds fuel listed a w (i::d):=λj c=>by
  rcases Sl.1 c with rfl|c
  · exact wpOp_step l (λb hK=>h b (λa w e=>hK a w ⟨λk=>absurd g k,e⟩))
  · exact hs j c
theorem Fx{c:List Nat}{fuel:Nat}{listed:Array Bool}{a:Act}{w:World}(d:Region.ready md ops listed=c)(b:c≠[])
    (h:Dg P md ops Q S ds fuel listed a w c):AB P md ops Q S ds (fuel+1) listed a w:=Jn d b h
theorem Cl{id n:Nat}{a:Act}{w:World}(l:Array Bool)(hm:P.follows .mixedOrders=true)(c:ops.size=n)(hl:Array.replicate n false=l)(b:S w.drew)
    (h:S w.drew->AB P .any ops Q S ds n l a w.drew):(Code.region id ops true).wp P Q a w:=by subst c;subst hl;exact Jd hm (h b)
def EU(md:Region.Mode)(ops:Array Oper)(ds:List Nat)(l l':Array Bool)(i:Nat):Bool :=
  Region.noSelect ops&&Region.free md ops l i&&(Region.ready md ops l).contains i&&Region.Hj md ops l&&Region.LU md ops l ds i&&(l.setIfInBounds i true==l')
theorem Es{i:Nat}{N:Option Tmp}{b:Oper}{v:Value}{fuel:Nat}{l:Array Bool}{a:Act}{w:World}(l':Array Bool)(hi:ops[i]?=some b)(hN:b.dst=N)(d:EU md ops ds l l' i=true)
    (k:∀c a w,Q (.panic c) (a.put b.dst v) w->Q (.panic c) a w)(o:YieldsIf P ops S b v a)(m:S w){a':Act}(n:a.put N v=a')
    (h:AB P md ops Q S ds fuel l' a' w):AB P md ops Q S ds (fuel+1) l a w:=by subst n;subst hN;simp only[EU,Bool.and_eq_true,beq_iff_eq]at d;obtain⟨⟨⟨⟨⟨h1,e⟩,h3⟩,h4⟩,g⟩,j⟩:=d;subst j;exact Jc hi h1 e h3 h4 g k o m h
def Ma(md:Region.Mode)(ops:Array Oper)(l l':Array Bool)(i:Nat):Bool :=
  Region.noSelect ops&&Region.free md ops l i&&(Region.ready md ops l).contains i&&(l.setIfInBounds i true==l')
theorem It{i:Nat}{N:Option Tmp}{b:Oper}{v:Value}{fuel:Nat}{l:Array Bool}{a:Act}{w:World}(l':Array Bool)(hi:ops[i]?=some b)(hN:b.dst=N)(d:Ma md ops l l' i=true)
    (j:∀c a w,Q (.panic c) (a.put b.dst v) w->Q (.panic c) a w)(m:Yields P ops b v a){a':Act}(k:a.put N v=a')
    (h:AB P md ops Q S ds fuel l' a' w):AB P md ops Q S ds (fuel+1) l a w:=by subst k;subst hN;simp only[Ma,Bool.and_eq_true,beq_iff_eq]at d;obtain⟨⟨⟨h1,e⟩,h3⟩,g⟩:=d;subst g;exact Jo hi (Region.noSelect_spec h1) j fuel l a w (Region.free_spec hi e) (by simpa using h3) m h
def G8(md:Region.Mode)(ops:Array Oper)(l l':Array Bool)(i:Nat):Bool:=(Region.ready md ops l==[i])&&(l.setIfInBounds i true==l')
theorem J_{i:Nat}{N:Option Tmp}{b:Oper}{fuel:Nat}{l:Array Bool}{a:Act}{w:World}(l':Array Bool)(hi:ops[i]?=some b)(hN:b.dst=N)(c:G8 md ops l l' i=true)(e:i∉ds)
    (h:∀K:Act->World->Prop,Shut (∀a' w',S w'->(S w'->AB P md ops Q S ds fuel l' a' w')->K a' w')->if Region.wanted b (yielded ops a.tmps)=true then Oper.wp P b a w K Q else K (a.put N undef) w) :
    AB P md ops Q S ds (fuel+1) l a w:=by subst hN;simp only[G8,Bool.and_eq_true,beq_iff_eq]at c;obtain⟨h1,d⟩:=c;subst d;exact Fx h1 (by simp) (Dg.cons hi e (λK hK=>h K hK) Dg.nil)
theorem Fe{i:Nat}{N:Option Tmp}{b:Oper}{fuel:Nat}{l:Array Bool}{a:Act}{w:World}(l':Array Bool)(hi:ops[i]?=some b)(hN:b.dst=N)(c:G8 md ops l l' i=true)(e:i∈ds)
    (h:∀K:Act->World->Prop,Shut (∀a' w',AB P md ops Q S ds fuel l' a' w'->K a' w')->if Region.wanted b (yielded ops a.tmps)=true then Oper.wp P b a w K Q else K (a.put N undef) w) :
    AB P md ops Q S ds (fuel+1) l a w:=by subst hN;simp only[G8,Bool.and_eq_true,beq_iff_eq]at c;obtain⟨h1,d⟩:=c;subst d;exact Fx h1 (by simp) (Dg.Mh hi e (λK hK=>h K hK) Dg.nil)
theorem CV{l:Array Bool}{a:Act}{w:World}{n:Nat}(b:(Region.ready md ops l==[])=true)(h:Q .normal a w):AB P md ops Q S ds n l a w:=Jb (by simpa using b) h n
theorem NM{i j:Nat}{Ni Nj:Option Tmp}{b c:Oper}{fuel:Nat}{l:Array Bool}{a:Act}{w:World}(li lj:Array Bool)(hi:ops[i]?=some b)(p:ops[j]?=some c)(d:b.dst=Ni)(e:c.dst=Nj)
    (m:(Region.ready md ops l==[i,j]&&l.setIfInBounds i true==li&&l.setIfInBounds j true==lj)=true)(g:i∉ds)(k:j∉ds)
    (h1:∀K:Act->World->Prop,Shut (∀a' w',S w'->(S w'->AB P md ops Q S ds fuel li a' w')->K a' w')->if Region.wanted b (yielded ops a.tmps)=true then Oper.wp P b a w K Q else K (a.put Ni undef) w)
    (n:∀K:Act->World->Prop,Shut (∀a' w',S w'->(S w'->AB P md ops Q S ds fuel lj a' w')->K a' w')->if Region.wanted c (yielded ops a.tmps)=true then Oper.wp P c a w K Q else K (a.put Nj undef) w) :
    AB P md ops Q S ds (fuel+1) l a w:=by subst d;subst e;simp only[Bool.and_eq_true,beq_iff_eq]at m;obtain⟨⟨h3,h4⟩,o⟩:=m;subst h4;subst o;exact Fx h3 (by simp) (Dg.cons hi g (λK hK=>h1 K hK) (Dg.cons p k (λK hK=>n K hK) Dg.nil))
def Ff:Act->List (Tmp×Value)->Act
  | a,[]=>a
  | a,(n,v)::r=>Ff (a.put (some n) v) r
theorem Nd{σ:Type}{fuel:Nat}{l:Array Bool}{a:Act}{w:World}(b:Nat)(l':Array Bool)(d:σ->List (Tmp×Value))(F:σ->World->Prop)
    (c:∀s w',F s w'->AB P md ops Q S ds b l' (Ff a (d s)) w')
    (h:(∀s w',F s w'->AB P md ops Q S ds b l' (Ff a (d s)) w')->AB P md ops Q S ds fuel l a w):AB P md ops Q S ds fuel l a w:=h c
theorem FI{fuel:Nat}{l:Array Bool}{a a':Act}{w:World}(b:a=a')(h:AB P md ops Q S ds fuel l a' w):AB P md ops Q S ds fuel l a w:=by subst b;exact h
theorem QA{c:Oper}{N:Option Tmp}{a:Act}{w:World}{K:Act->World->Prop}(f:FuncId)(args:Array Value)(hw:Region.wanted c (yielded ops a.tmps)=true)(hN:c.dst=N)(b:(execOp a.eval c).run P w=.ok (.enter f args) w)
    (h:Calls P f args w λe w'=>∃v,e=.returned v∧K (a.put N v) w'):if Region.wanted c (yielded ops a.tmps)=true then Oper.wp P c a w K Q else K (a.put N undef) w:=by
 rw[Ry hw];subst hN;unfold Oper.wp;rw[b,Oper.upon_enter];refine h.mono λe i d=>?_
 obtain⟨v,rfl,g⟩:=d;exact g
theorem LO{f:FuncId}{fn:Func}(e:P.funcs[f]?=some fn)(a:(fn.name == "runtime.NumGoroutine")=false)(b:fn.body.isSome=true)(args:Array Value)(w:World):(callFunc f args).run P w=.ok (.enter f args) w:=by
 have h1:fn.name ≠ "runtime.NumGoroutine" := by simpa using a
 obtain⟨c,d⟩:=Option.isSome_iff_exists.1 b;simp[callFunc,e,h1,d]
theorem C7{g:Oper}{N:Option Tmp}{a:Act}{w:World}{K:Act->World->Prop}{f:FuncId}{fn:Func}{d:Array Operand}{l:Array TypeId}(k:P.funcs[f]?=some fn)(c:(fn.name == "runtime.NumGoroutine")=false)(j:fn.body.isSome=true)(args:Array Value)
    (hw:Region.wanted g (yielded ops a.tmps)=true)(hN:g.dst=N)(i:g.op=.call { callee:=.value (.func f),args:=d,argTypes:=l })(b:d.map a.eval=args)
    (h:Calls P f args w λe w'=>∃v,e=.returned v∧K (a.put N v) w'):if Region.wanted g (yielded ops a.tmps)=true then Oper.wp P g a w K Q else K (a.put N undef) w:=by refine QA f args hw hN ?_ h;have he:=LO k c j args w;unfold execOp;simp[i,resolve,Deferred.ofValue,invoke,Act.eval,b,he]
theorem G1{rest:List Oper}{i:Oper}{a:Act}{w:World}(N:Option Tmp)(l:i.dst=N)(hg:i.guard=none){f:FuncId}{fn:Func}{d:Array Operand}{p:Array TypeId}(m:P.funcs[f]?=some fn)(c:(fn.name == "runtime.NumGoroutine")=false)(k:fn.body.isSome=true)(args:Array Value)
    (j:i.op=.call { callee:=.value (.func f),args:=d,argTypes:=p })(b:d.map a.eval=args)
    (h:Calls P f args w λe w'=>∃v,e=.returned v∧wpList P ops Q rest (a.put N v) w'):wpList P ops Q (i::rest) a w:=by
 refine T2 hg λK hK=>?_
 have he:=LO m c k args w;have g:(execOp a.eval i).run P w=.ok (.enter f args) w:=by unfold execOp;simp[j,resolve,Deferred.ofValue,invoke,Act.eval,b,he]
 unfold Oper.wp;rw[g,Oper.upon_enter];refine h.mono λe q n=>?_
 obtain⟨v,rfl,o⟩:=n;subst l;exact hK _ _ o
theorem Gi{c:Oper}{N:Option Tmp}{a:Act}{w w1:World}{v:Value}{K:Act->World->Prop}(hw:Region.wanted c (yielded ops a.tmps)=true)(hN:c.dst=N)(b:(execOp a.eval c).run P w=.ok (.value v) w1)
    (h:K (a.put N v) w1):if Region.wanted c (yielded ops a.tmps)=true then Oper.wp P c a w K Q else K (a.put N undef) w:=by rw[Ry hw];subst hN;unfold Oper.wp;rw[b];exact h
theorem EL{b:Oper}{a:Act}{w w1:World}{K:Act->World->Prop}(hw:Region.wanted b (yielded ops a.tmps)=true)(hN:b.dst=none)(c:(execOp a.eval b).run P w=.ok .skip w1)
    (h:K a w1):if Region.wanted b (yielded ops a.tmps)=true then Oper.wp P b a w K Q else K (a.put none undef) w:=by rw[Ry hw];unfold Oper.wp;rw[c];show K (a.put b.dst undef) w1;rw[hN];exact h
theorem BJ(n:Int):IntKind.i64.wrap n=Go.RowKit.wrap64 n:=by unfold Go.RowKit.wrap64;exact IntKind.wrap_i64 n
theorem BP(n:Int):IntKind.i32.wrap n=Go.RowKit.wrap32 n:=by unfold Go.RowKit.wrap32;exact IntKind.wrap_i32 n
end
end Go.Proofs.YtlhlpfnljglhoaaDoorW.Bb
end
section
namespace Go.Proofs.YtlhlpfnljglhoaaDoorW.PrintWords
open Go.RowKit
namespace Kd
def tag{α:Type}(f:Nat->Nat)(d:Kd α):Kd (α×Nat) where
  sz:=d.sz
  E:=d.E
  K:=λw x cs=>d.K w x.1 cs
  M:=λw base ok x cs=>d.M w base (λk=>ok k∧f k=x.2) x.1 cs
  Ei:=λh=>d.Ei h
  D7:=λh=>d.D7 h
  D5:=λb h=>d.D5 b h
  C_:=λh=>d.C_ h
  Cv:=λc h=>d.Cv (λk a=>⟨c k a.1,a.2⟩) h
  Db:=λh=>d.Cv (λ_ a=>⟨⟨a.1.1,a.2⟩,a.1.2⟩) (d.Db h)
  DF:=λhm h=>d.DF (λk a=>hm k a.1) h
  D6:=λb h=>d.D6 b h
def bare{α:Type}(d:Kd α):Kd α where
  sz:=d.sz
  E:=d.E
  K:=d.K
  M:=λw base _ x cs=>d.M w base (λ_=>False) x cs
  Ei:=λh=>d.Ei h
  D7:=λh=>d.D7 h
  D5:=λa h=>d.D5 a h
  C_:=λh=>d.C_ h
  Cv:=λ_ h=>h
  Db:=λh=>h
  DF:=λ_ h=>d.DF (λ_ b=>b.elim) h
  D6:=λa h=>d.D6 a h
def raw(sz:Nat):Kd (List Value) where
  sz:=sz
  E:=[]
  K:=λ_ x cs=>cs=x∧cs.length=sz∧∀u∈cs,u.oneCell'=true
  M:=λ_ _ _ x cs=>cs=x∧cs.length=sz∧∀u∈cs,u.oneCell'=true
  Ei:=λh=>h.2.1
  D7:=λh=>h.2.2
  D5:=λ_ h=>h
  C_:=λh=>h
  Cv:=λ_ h=>h
  Db:=λh=>h
  DF:=λ_ h=>h
  D6:=λ_ h=>h
def S{α:Type}(d:Kd α)(e:Nat)(w:World)(base:Nat)(ok:Nat->Prop)(v:Value)(xs:List α):Prop:=∃f,(tag f d).R e w base ok v xs.zipIdx
section
variable {α β:Type} {d:Kd α} {d':Kd β} {e e':Nat} {w w1 W:World} {base b:Nat} {ok Fi okv oku:Nat->Prop} {u v:Value} {xs:List α} {ys:List β}
theorem Gw{xs:List α}{j:Nat}{p:α}(h:xs[j]?=some p):xs.zipIdx[j]?=some (p,j):=by rw[S_,h,Tp];rfl
theorem L_(h:S d e w base ok v xs):d.R e w base ok v xs:=by obtain⟨f,h0,inner,a,b⟩:=h;rw[Sj]at a;exact⟨h0,inner,a,by have:=b.1;rw[Sj]at this;exact this,λj p c=>d.Cv (λ_ g=>g.1) (b.2 j (p,j) (Gw c))⟩
theorem Pv{ad:Addr}{n cap:Nat}(h:d.R e w base ok (.slice (some ad) n cap) xs):∃g,ad=⟨g,0,none⟩:=by
 obtain⟨_,inner,i,j⟩:=h;rcases i.2 with⟨b,_⟩|⟨g,c,cur,b,_⟩
 ·cases b
 injection b with a _ _;injection a with a;exact⟨g,a⟩
theorem Pu{ad:Addr}{n cap:Nat}(h:d.R e W base ok (.slice (some ad) n cap) xs)(z:α)(i:Int)(h0:0≤i)(h1:i<n) :
    ∃c,c.length=d.sz∧d.M W base (λk=>ok k∧some k≠(Value.slice (some ad) n cap).ownBlock) (xs.getD i.toNat z) c∧∀j u,c[j]?=some u->W.cell? (ad.add (i.toNat*d.sz+j))=some u:=by obtain⟨g,rfl⟩:=Pv h;obtain⟨c,b,m,a,_⟩:=GW h z i h0 h1;refine⟨c,b,d.Cv (λk l=>⟨l.1,λhe=>l.2 (by simpa[Value.ownBlock]using he)⟩) m,λj u hu=>?_⟩;rw[PD,Tp];exact a j u hu
theorem E_(hE:d.E=[])(h:d.R e w base ok v xs):d.R e w base (λk=>some k=v.ownBlock) v xs:=by obtain⟨h0,inner,g,j⟩:=h;refine⟨λk a=>a.symm,inner,g,j.Ga (λp c i=>d.Cv (λk a=>?_) (d.Db i))⟩;obtain⟨_,_,_,q,b,_⟩:=a;rw[hE]at b;cases b
theorem Jq(d:Kd α)(e:Nat)(w:World)(base:Nat)(ok:Nat->Prop):S d e w base ok (.slice none 0 0) []:=⟨λ_=>0,He _ _ _ _ _⟩
theorem CM(h:S d e w base ok v xs)(a:∀k,ok k->Fi k):S d e w base Fi v xs:=by obtain⟨f,h⟩:=h;exact⟨f,Ai h a⟩
theorem F7(h:S d e w base ok v xs):S d e w base (λk=>ok k∧base≤k∧k<w.heap.size∧∃q,q∈e::d.E∧∃cells,w.heap[k]?=some (.cells cells q (0,0))) v xs:=by obtain⟨f,h⟩:=h;exact⟨f,C4 h⟩
theorem PA(h:S d e w base ok v xs)(hm:∀k,ok k->w1.heap[k]?=w.heap[k]?):S d e w1 base ok v xs:=by obtain⟨f,h⟩:=h;exact⟨f,Ib h hm⟩
theorem Ea{Ew:Nat}(h:S d e w base ok v xs)(a:Ew≤base):S d e w Ew ok v xs:=by obtain⟨f,h⟩:=h;exact⟨f,AU h a⟩
theorem K2(h:S d e w base ok v xs)(hm:∀k,ok k->k<w.heap.size->w1.heap[k]?=w.heap[k]?):S d e w1 base ok v xs :=
  CM (PA (F7 h) (λk a=>hm k a.1 a.2.2.1)) (λ_ a=>a.1)
theorem FN(h:S d e w base ok v xs)(a:Below w.heap.size w w1):S d e w1 base ok v xs:=K2 h (λk _ b=>a.block k b)
theorem KY(h:S d e w base ok v xs):S d e w.drew base ok v xs:=FN h (E2 (RG _ _))
theorem Cj(h:S d e w base ok v xs){p:Addr}(a:∀k,ok k->k≠p.block)(u:Value):S d e (w.setCell p u) base ok v xs:=K2 h (λk b _=>Su w p u k (a k b))
theorem Eb(h:S d e w base ok v xs){g t:Nat}{cells:Array Value}(a:w.heap[g]?=some (.cells cells t (0,0)))(b:∀q,q∈e::d.E->q≠t):S d e w base (λk=>ok k∧k≠g) v xs:=by obtain⟨f,h⟩:=h;exact⟨f,Aj h a b⟩
theorem Ds(h:S d e w base ok v xs):∀k,v.ownBlock=some k->∃cells,w.heap[k]?=some (.cells cells e (0,0)):=Ca (L_ h)
theorem MK(h:S d e w base ok v xs):∀k,v.ownBlock=some k->base≤k:=Ch (L_ h)
theorem JR(h:S d e W base ok u xs)(a:∀k,v.ownBlock=some k->∃cells,W.heap[k]?=some (.cells cells e' (0,0)))(b:∀q,q∈e::d.E->q≠e')(hg:W.grownBy w1 v.ownBlock):S d e w1 base ok u xs:=by obtain⟨f,h⟩:=h;exact⟨f,DL h a b hg⟩
theorem Kr(h:S d e W base ok u xs)(a:∀k,v.ownBlock=some k->∃cells,W.heap[k]?=some (.cells cells e' (0,0)))(b:∀q,q∈e::d.E->q≠e'):S d e W base (λk=>ok k∧some k≠v.ownBlock) u xs:=by obtain⟨f,h⟩:=h;exact⟨f,BE h a b⟩
theorem Hf(h:S d e W base ok u xs)(a:∀k,v.ownBlock=some k->W.heap.size≤k)(b:Below W.heap.size W w1):S d e w1 base (λk=>ok k∧some k≠v.ownBlock) u xs:=by obtain⟨f,h⟩:=h;exact⟨f,Dq h a b⟩
theorem MN(h:S d e w1 W.heap.size ok v xs)(a:∀k,u.ownBlock=some k->k<W.heap.size):S d e w1 W.heap.size (λk=>ok k∧some k≠u.ownBlock) v xs:=by obtain⟨f,h⟩:=h;exact⟨f,Et h a⟩
theorem Lw{v1:Value}(h:S d e W base (λk=>ok k∧some k≠v.ownBlock) u xs)(hg:W.grownBy w1 v.ownBlock)(a:v1.ownBlock=v.ownBlock∨∃b,v1.ownBlock=some b∧W.heap.size≤b):S d e w1 base (λk=>ok k∧some k≠v1.ownBlock) u xs:=by obtain⟨f,h⟩:=h;exact⟨f,F6 h hg a⟩
theorem OR(h:S d e W base ok u xs)(b:Below W.heap.size W w1):S d e w1 base (λk=>ok k∧k<W.heap.size) u xs :=
  CM (FN (F7 h) b) (λ_ a=>⟨a.1,a.2.2.1⟩)
theorem Py(h:(bare d).R e w base ok v xs):S d e w base ok v xs:=by obtain⟨h0,inner,g,b⟩:=h;refine⟨λ_=>0,h0,inner,by rw[Sj];exact g,by rw[Sj];exact b.1,λj p a=>?_⟩;rw[S_,Tp]at a;obtain⟨x,i,rfl⟩:=Sz.1 a;exact d.Cv (λ_ c=>c.elim) (b.2 j x i)
theorem Qn{f b:Nat->Nat}{zs:List (α×Nat)}(h:(tag f d).R e w base ok v zs)(g:∀k,ok k->k<w.heap.size->b k=f k):(tag b d).R e w base ok v zs:=by obtain⟨h0,inner,l,c⟩:=C4 h;exact⟨λk a=>(h0 k a).1,inner,l,c.1,λj p i=>d.Cv (λk a=>⟨⟨a.1.1.1,a.1.2⟩,(g k a.1.1.1 a.1.1.2.2.1).trans a.2⟩) (c.2 j p i)⟩
end
section
variable {α β:Type} {d:Kd α} {d':Kd β} {e e' g:Nat} {w w1 W:World} {base b:Nat} {ok Fi okv oku:Nat->Prop} {u v:Value} {xs:List α} {ys:List β}
theorem Ku(h:S d e w base ok v xs){t:Nat}{cells:Array Value}(a:w.heap[g]?=some (.cells cells t (0,0)))(b:e≠t):some g≠v.ownBlock:=EY (L_ h) a b
theorem MJ(h:S d e w base ok v xs)(a:∀k,ok k->k≠g):some g≠v.ownBlock:=Gn (L_ h) a
theorem KZ(h:S d e w base ok v xs)(a:0<xs.length):∃g cap,v=.slice (some ⟨g,0,none⟩) xs.length cap∧base≤g∧g<w.heap.size∧∃cells,w.heap[g]?=some (.cells cells e (0,0)):=IV (L_ h) a
theorem Ep(h:S d e w base ok v xs):∃A c,v=.slice A xs.length c:=Be (L_ h)
theorem MO{A:Option Addr}{n c:Nat}(h:S d e w base ok (.slice A n c) xs):n=xs.length∧n≤c∧d.C w A xs.length xs:=At (L_ h)
theorem Kt(h:S d e w base ok v xs)(a:Nat)(c:w.heap.size≤a):S d e w base (λk=>ok k∧k≠a) v xs:=CM (F7 h) (λk b=>⟨b.1,by have:=b.2.2.1;omega⟩)
theorem JS{N:Nat}(h:S d e w1 base (λk=>ok k∧k<N) u xs)(a:∀k,v.ownBlock=some k->N≤k):S d e w1 base (λk=>(ok k∧some k≠v.ownBlock)∧k<N) u xs :=
  CM h (λk b=>⟨⟨b.1,λe=>TC _ (R_ b.2 (a k e.symm))⟩,b.2⟩)
theorem KU(xs:List α)(p:α):(xs++[p]).zipIdx=xs.zipIdx++[(p,xs.length)]:=by rw[List.zipIdx_append];simp
end
section
open Classical in
/-- The next element's blocks are okp: none is one of v's (okv). -/
theorem OS{α:Type}{d:Kd α}{e base:Nat}{okv:Nat->Prop}{w:World}{v:Value}{xs:List α}(h:S d e w base okv v xs)(m:Nat)(okp:Nat->Prop)(a:∀k,okp k->¬ okv k):∃f,(∀k,okp k->f k=m)∧(tag f d).R e w base okv v xs.zipIdx:=by obtain⟨f,h⟩:=h;exact⟨λk=>if okp k then m else f k,λk b=>Ry b,Qn h (λk b _=>Rz (λc=>a k c b))⟩
variable {P:Program} {ops:Array Oper} {rest:List Oper} {o:Oper} {a:Act} {Q:Exit->Act->World->Prop} {Kc:Act->World->Prop} {α:Type}
theorem Ks(d:Kd α){w0 W:World}(base:Nat)(q:o.guard=none)(s x:Operand)(t e:TypeId)(z:Value)(bytes:Nat)
    (B:o.op=.call { callee:=.builtin .append,args:=#[s,x],argTypes:=#[t,t] })
    (E:P.underlying t=some (.slice e))(j:(P.info? e).map (λi=>(i.zero,i.size,i.bytes))=some (some z,d.sz,bytes))(hz:z.cells.size=d.sz)(r:0<d.sz)(n:0<bytes)
    (v:Value)(xs:List α)(p:α)(cs:List Value)(ok okp:Nat->Prop)(hs:a.eval s=v)(G:a.eval x=.slice (some ⟨W.heap.size,0,none⟩) 1 1)(D:d.M W base okp p cs)(m:∀k,okp k->ok k∧some k≠v.ownBlock)(c:∀k,W.heap.size≤k->ok k)
    (w:S d e W base (λk=>ok k∧¬ okp k) v xs)(HB:Below base w0 W)(g:base≤W.heap.size)(hl:(xs.length+1)*bytes≤140737488355328)
    (h:∀v1 w1,S d e w1 base ok v1 (xs++[p])->Below base w0 w1->W.grownBy w1 v.ownBlock->(v1.ownBlock=v.ownBlock∨∃b,v1.ownBlock=some b∧W.heap.size≤b)->wpList P ops Q rest (a.put o.dst v1) w1) :
    wpList P ops Q (o::rest) a (W.alloc (.cells cs.toArray e)):=by obtain⟨f,A,hR⟩:=OS w xs.length okp (λ_ l y=>y.2 l);refine ES (tag f d) base q s x t e z bytes B E j hz r n v xs.zipIdx (p,xs.length) cs ok okp hs G (d.Cv (λk l=>⟨l,A k l⟩) D) m c (Ai hR (λ_ l=>l.1)) HB g (by rw[Sj];exact hl) ?_;intro v1 w1 u;rw[<-KU]at u;exact h v1 w1 ⟨f,u⟩
theorem Je(d:Kd α){w0 W:World}(base:Nat)(hw:Region.wanted o (yielded ops a.tmps)=true)(s x:Operand)(t e:TypeId)(z:Value)(bytes:Nat)
    (A:o.op=.call { callee:=.builtin .append,args:=#[s,x],argTypes:=#[t,t] })
    (D:P.underlying t=some (.slice e))(j:(P.info? e).map (λi=>(i.zero,i.size,i.bytes))=some (some z,d.sz,bytes))(hz:z.cells.size=d.sz)(q:0<d.sz)(n:0<bytes)
    (v:Value)(xs:List α)(p:α)(cs:List Value)(ok okp:Nat->Prop)(hs:a.eval s=v)(E:a.eval x=.slice (some ⟨W.heap.size,0,none⟩) 1 1)(B:d.M W base okp p cs)(m:∀k,okp k->ok k∧some k≠v.ownBlock)(c:∀k,W.heap.size≤k->ok k)
    (u:S d e W base (λk=>ok k∧¬ okp k) v xs)(HB:Below base w0 W)(g:base≤W.heap.size)(hl:(xs.length+1)*bytes≤140737488355328)
    (h:∀v1 w1,S d e w1 base ok v1 (xs++[p])->Below base w0 w1->W.grownBy w1 v.ownBlock->(v1.ownBlock=v.ownBlock∨∃b,v1.ownBlock=some b∧W.heap.size≤b)->Kc (a.put o.dst v1) w1) :
    if Region.wanted o (yielded ops a.tmps)=true then Oper.wp P o a (W.alloc (.cells cs.toArray e)) Kc Q else Kc (a.put o.dst undef) (W.alloc (.cells cs.toArray e)):=by obtain⟨f,y,hR⟩:=OS u xs.length okp (λ_ l w=>w.2 l);refine Fl (tag f d) base hw s x t e z bytes A D j hz q n v xs.zipIdx (p,xs.length) cs ok okp hs E (d.Cv (λk l=>⟨l,y k l⟩) B) m c (Ai hR (λ_ l=>l.1)) HB g (by rw[Sj];exact hl) ?_;intro v1 w1 r;rw[<-KU]at r;exact h v1 w1 ⟨f,r⟩
theorem OQ(d:Kd α){w0 W:World}(base e:Nat)(l:o.guard=none){N:Tmp}(_hd:o.dst=some N){xs:List α}{inner:List Value}{ok okp:Nat->Prop}
    (j:(execOp a.eval o).run P W=.ok (.value (.slice (some ⟨W.heap.size,0,none⟩) xs.length xs.length)) (W.alloc (.cells inner.toArray e)))
    (i:Bn (d.M W base (λ_=>False)) d.sz xs inner)(_hok:∀k,okp k->ok k)(c:ok W.heap.size)(HB:Below base w0 W)(g:base≤W.heap.size)(hm:xs.length≤9223372036854775807)
    (h:∀v1 w1,S d e w1 base ok v1 xs->Below base w0 w1->W.grownBy w1 none->(∃b,v1.ownBlock=some b∧W.heap.size≤b)->wpList P ops Q rest (a.put o.dst v1) w1):wpList P ops Q (o::rest) a W :=
  DG (bare d) base e l _hd (ok:=ok) (okp:=ok) j i (λ_ m=>m) c HB g hm (λv1 w1 n=>h v1 w1 (Py n))
end
def QW{α:Type}(f:Nat->Nat)(d:Kd α)(i:Nat)(c:List Value):Kd (α×Nat) where
  sz:=d.sz
  E:=d.E
  K:=λw x cs=>(x.2=i->cs=c∧cs.length=d.sz∧∀u∈cs,u.oneCell'=true)∧(x.2≠i->d.K w x.1 cs)
  M:=λw base ok x cs=>(x.2=i->cs=c∧cs.length=d.sz∧∀u∈cs,u.oneCell'=true)∧(x.2≠i->d.M w base (λk=>ok k∧f k=x.2) x.1 cs)
  Ei:=λ{w x cs} h=>by
    by_cases a:x.2=i
    · exact(h.1 a).2.1
    · exact d.Ei (h.2 a)
  D7:=λ{w x cs} h=>by
    by_cases a:x.2=i
    · exact(h.1 a).2.2
    · exact d.D7 (h.2 a)
  D5:=λe h=>⟨h.1,λa=>d.D5 e (h.2 a)⟩
  C_:=λh=>⟨h.1,λa=>d.C_ (h.2 a)⟩
  Cv:=λg h=>⟨h.1,λa=>d.Cv (λk b=>⟨g k b.1,b.2⟩) (h.2 a)⟩
  Db:=λh=>⟨h.1,λa=>d.Cv (λ_ b=>⟨⟨b.1.1,b.2⟩,b.1.2⟩) (d.Db (h.2 a))⟩
  DF:=λhm h=>⟨h.1,λa=>d.DF (λk b=>hm k b.1) (h.2 a)⟩
  D6:=λe h=>⟨h.1,λa=>d.D6 e (h.2 a)⟩
def H{α:Type}(d:Kd α)(e:Nat)(w:World)(base:Nat)(ok:Nat->Prop)(v:Value)(xs:List α)(i:Int)(oki:Nat->Prop)(c:List Value):Prop :=
  (∀k,oki k->ok k)∧∃f,(QW f d i.toNat c).R e w base (λk=>ok k∧¬ oki k) v xs.zipIdx
section
variable {α β:Type} {d:Kd α} {e e' g n cap:Nat} {w w1 W:World} {base:Nat} {ok Fi oki okp:Nat->Prop} {u v:Value} {xs:List α} {i:Int} {c:List Value}
theorem Pz(h:S d e W base ok (.slice (some ⟨g,0,none⟩) n cap) xs)(z:α)(i:Int)(h0:0≤i)(h1:i<n) :
    ∃(oki:Nat->Prop) (c:List Value),c.length=d.sz∧d.M W base oki (xs.getD i.toNat z) c∧(∀j u,c[j]?=some u->W.cell? ⟨g,i.toNat*d.sz+j,none⟩=some u)∧(∀k,oki k->ok k∧k≠g)∧H d e W base ok (.slice (some ⟨g,0,none⟩) n cap) xs i oki c:=by
 obtain⟨f,hR⟩:=h;have D:=(At hR).1;rw[Sj]at D;have b:some g=(Value.slice (some ⟨g,0,none⟩) n cap).ownBlock:=by simp[Value.ownBlock]
 obtain⟨o,inner,y,r⟩:=hR;have l:i.toNat<xs.length:=by omega
 have hlen:inner.length=xs.length*d.sz:=by have:=r.1;rw[Sj]at this;exact this
 have A:i.toNat*d.sz+d.sz≤inner.length:=by rw[hlen,<-SS];exact Ss _ l
 have v:=r.2 i.toNat _ (Gw (RD l));have w:∀k,some k≠(Value.slice (some ⟨g,0,none⟩) n cap).ownBlock->k≠g:=λk a he=>a (by rw[he];exact b)
 refine⟨λk=>(ok k∧k≠g)∧f k=i.toNat,(inner.drop (i.toNat*d.sz)).take d.sz,by rw[RV,R9];omega,?_,λj u hu=>?_,λk a=>a.1,λk a=>a.1.1,f,λk a=>⟨o k a,λt=>t.1.2 ?_⟩,inner,y,r.1,λm p hm=>?_⟩
 ·rw[RS,RD l];exact d.Cv (λk a=>⟨⟨a.1.1,w k a.1.2⟩,a.2⟩) v
 ·rw[Sm]at hu;split at hu
  ·rw[Sq]at hu;have:=y.cells (g:=g) b.symm _ u hu;rwa[add_plain]at this
  cases hu
 ·rw[<-b]at a;injection a with a;exact a.symm
 have hold:=r.2 m p hm;have E:p.2=m:=by rw[S_,Tp]at hm;obtain⟨q,_,rfl⟩:=Sz.1 hm;rfl
 refine⟨λB=>?_,λB=>d.Cv (λk a=>⟨⟨⟨a.1.1,λt=>B ?_⟩,a.1.2⟩,a.2⟩) hold⟩
 ·have x:m=i.toNat:=by omega
  subst x;exact⟨rfl,d.Ei (d.C_ v),d.D7 (d.C_ v)⟩
 rw[<-a.2];exact t.2
open Classical in
/-- The element put back: its blocks are among those that were lent. -/
theorem Pn(h:H d e w base ok v xs i oki c){x':α}(r:d.M w base okp x' c)(j:∀k,okp k->oki k):S d e w base ok v (xs.set i.toNat x'):=by
 obtain⟨u,f,h0,inner,b,o⟩:=h;refine⟨λk=>if oki k then i.toNat else f k,λk a=>(h0 k a).1,inner,by rw[Sj,Si];rw[Sj]at b;exact b,by have:=o.1;rw[Sj]at this;rw[Sj,Si];exact this,λm p hm=>?_⟩;rw[S_,Tp]at hm;obtain⟨q,l,rfl⟩:=Sz.1 hm;have n:m<xs.length:=by have:=(RL.1 l).1;rwa[Si]at this
 by_cases g:m=i.toNat
 ·subst g;rw[RC n]at l;injection l with l;subst l;have t:=((o.2 i.toNat _ (Gw (RD n))).1 rfl).1;show d.M w base _ x' ((inner.drop (i.toNat*d.sz)).take d.sz);rw[show(inner.drop (i.toNat*d.sz)).take d.sz=c from t];exact d.Cv (λk a=>⟨⟨u k (j k a),λhe=>(h0 k he.symm).2 (j k a)⟩,Ry (j k a)⟩) r
 rw[Tm (T_ g)]at l;exact d.Cv (λk a=>⟨⟨a.1.1.1,a.1.2⟩,(Rz a.1.1.2).trans a.2⟩) ((o.2 m (q,m) (Gw l)).2 g)
theorem Po(h:H d e w base ok v xs i oki c)(a:∀k,ok k->Fi k):H d e w base Fi v xs i oki c:=by obtain⟨g,f,h⟩:=h;exact⟨λk b=>a k (g k b),f,Ai h (λk b=>⟨a k b.1,b.2⟩)⟩
theorem Pp{okg:Nat->Prop}(h:H d e w base (λk=>ok k∧¬ okg k) v xs i oki c)(hg:∀k,okg k->ok k):H d e w base ok v xs i (λk=>oki k∨okg k) c:=by obtain⟨g,f,h⟩:=h;exact⟨λk a=>a.elim (λb=>(g k b).1) (hg k),f,Ai h (λk a=>⟨a.1.1,λb=>b.elim a.2 a.1.2⟩)⟩
theorem ML(h:S d e W base ok (.slice (some ⟨g,0,none⟩) n cap) xs)(z:α)(i:Int)(h0:0≤i)(h1:i<n) :
    ∃(oki:Nat->Prop) (c:List Value),c.length=d.sz∧d.M W base oki (xs.getD i.toNat z) c∧(∀j u,c[j]?=some u->W.cell? ⟨g,i.toNat*d.sz+j,none⟩=some u)∧(∀j,W.frozen? ⟨g,i.toNat*d.sz+j,none⟩=false)∧(∀k,oki k->ok k∧k≠g)∧H d e W base ok (.slice (some ⟨g,0,none⟩) n cap) xs i oki c:=by obtain⟨_,_,_,_,m⟩:=GW (L_ h) z i h0 h1;obtain⟨oki,c,l,p,b,a,o⟩:=Pz h z i h0 h1;exact⟨oki,c,l,p,b,m,a,o⟩
theorem Qi(h:H d e W base ok (.slice (some ⟨g,0,none⟩) n cap) xs i oki c)(h0:0≤i)(h1:i<n) :
    ∃rows:List (List Value),rows.length=xs.length∧(raw d.sz).R e W base (λ_=>True) (.slice (some ⟨g,0,none⟩) n cap) rows∧c.length=d.sz∧(∀u∈c,u.oneCell'=true)∧(∀j u,c[j]?=some u->W.cell? ⟨g,i.toNat*d.sz+j,none⟩=some u) ∧
      ∀w1 B,W.grownBy w1 (some g)->(raw d.sz).R e w1 base (λ_=>True) (.slice (some ⟨g,0,none⟩) n cap) (rows.set i.toNat B)->H d e w1 base ok (.slice (some ⟨g,0,none⟩) n cap) xs i oki B:=by
 obtain⟨L,f,hR⟩:=h;have T:=(At hR).1;rw[Sj]at T;have t:some g=(Value.slice (some ⟨g,0,none⟩) n cap).ownBlock:=by simp[Value.ownBlock]
 obtain⟨y,inner,K,z⟩:=hR;have v:i.toNat<xs.length:=by omega
 have hlen:inner.length=xs.length*d.sz:=by have:=z.1;rw[Sj]at this;exact this
 have I:∀k,some k≠(Value.slice (some ⟨g,0,none⟩) n cap).ownBlock->k≠g:=λk r he=>r (by rw[he];exact t)
 have b:=(z.2 i.toNat _ (Gw (RD v))).1 rfl;rw[b.1]at b;have P:=((z.2 i.toNat _ (Gw (RD v))).1 rfl).1;refine⟨(List.range xs.length).map λj=>(inner.drop (j*d.sz)).take d.sz,by rw[SR,SP],⟨λ_ _=>trivial,inner,?_,?_,λj p M=>?_⟩,b.2.1,b.2.2,λj u hu=>?_,λw1 B hg A=>?_⟩
 ·rw[SR,SP];rw[Sj]at K;exact K
 ·rw[SR,SP];exact hlen
 ·rw[Tt]at M;obtain⟨U,G,rfl⟩:=Sz.1 M;obtain⟨hl,he⟩:=RL.1 G;rw[List.getElem_range]at he;subst he;rw[SP]at hl;have hm:=(QW f d i.toNat c).C_ (z.2 j _ (Gw (RD hl)));exact⟨rfl,(QW f d i.toNat c).Ei hm,(QW f d i.toNat c).D7 hm⟩
 ·rw[<-P,Sm]at hu;split at hu
  ·rw[Sq]at hu;have:=K.cells (g:=g) t.symm _ u hu;rwa[add_plain]at this
  cases hu
 obtain⟨_,a,x,l⟩:=A;have J:a.length=xs.length*d.sz:=by have:=l.1;rw[Si,SR,SP]at this;exact this
 rw[Si,SR,SP]at x;refine⟨L,f,y,a,by rw[Sj];exact x,by rw[Sj];exact J,λm p hm=>?_⟩;rw[S_,Tp]at hm;obtain⟨q,O,rfl⟩:=Sz.1 hm;have w:m<xs.length:=(RL.1 O).1;have hold:=z.2 m (q,m) (Gw O);refine⟨λD=>?_,λD=>?_⟩
 ·have o:m=i.toNat:=D;subst o;exact l.2 i.toNat B (RC (by rw[SR,SP];exact w))
 have o:m≠i.toNat:=D;have E:=(l.2 m ((inner.drop (m*d.sz)).take d.sz) (by rw[Tm (T_ o),Tt,RD (by rw[SP];exact w),List.getElem_range];rfl)).1;show d.M w1 base _ q ((a.drop (m*d.sz)).take d.sz);rw[show(a.drop (m*d.sz)).take d.sz=_ from E];exact d.Cv (λk r=>r.1) (d.DF (w1:=w1) (λk r=>hg.block k r.2.2.1 (λhe=>I k r.1.1.2 (by injection he))) (d.Db (hold.2 D)))
theorem Qj(h:H d e W base ok (.slice (some ⟨g,0,none⟩) n cap) xs i oki c)(h0:0≤i)(h1:i<n){seg:List Value}{j:Nat}(r:j+seg.length≤d.sz)(k:∀q∈seg,q.oneCell'=true) :
    H d e (W.setCells g (i.toNat*d.sz+j) seg) base ok (.slice (some ⟨g,0,none⟩) n cap) xs i oki (c.take j++seg++c.drop (j+seg.length))∧W.grownBy (W.setCells g (i.toNat*d.sz+j) seg) (some g):=by
 obtain⟨rows,_,l,o,b,m,a⟩:=Qi h h0 h1
 obtain⟨p,h3⟩:=Lv l i h0 h1 (c:=c) (seg:=seg) (j:=j) (x':=c.take j++seg++c.drop (j+seg.length)) (okp:=λ_=>False) o m r
   ⟨rfl,by
     show(c.take j++seg++c.drop (j+seg.length)).length=d.sz
     simp only[List.length_append,List.length_take,List.length_drop];omega,λu hu=>by
     rcases Sr.1 hu with hu|hu
     · rcases Sr.1 hu with hu|hu
       · exact b u (SA hu)
       · exact k u hu
     · exact b u (SF hu)⟩ (λ_ t=>t.elim)
 exact⟨a _ _ h3 p,h3⟩
theorem Qo{okg:Nat->Prop}(o:H d e W base (λk=>ok k∧¬ okg k) (.slice (some ⟨g,0,none⟩) n cap) xs i oki c)(h0:0≤i)(h1:i<n){seg:List Value}{j:Nat}(t:j+seg.length≤d.sz)
    {x':α}(p:d.M W base okp x' (c.take j++seg++c.drop (j+seg.length)))(b:∀k,okp k->oki k∨okg k)(hg:∀k,okg k->ok k∧k≠g) :
    S d e (W.setCells g (i.toNat*d.sz+j) seg) base ok (.slice (some ⟨g,0,none⟩) n cap) (xs.set i.toNat x')∧W.grownBy (W.setCells g (i.toNat*d.sz+j) seg) (some g):=by
 have m:∀k,oki k∨okg k->k≠g:=by
  intro k a he;subst he;rcases a with a|a
  ·obtain⟨_,f,hR⟩:=o;exact(hR.1 k (by simp[Value.ownBlock])).2 a
  exact(hg k a).2 rfl
 obtain⟨r,h3⟩:=Qj (Pp o (λk a=>(hg k a).1)) h0 h1 t (λq u=>d.D7 (d.C_ p) q (SL _ (S8 _ u)));exact⟨Pn r (KV p (λk a l=>h3.block k l (λhe=>m k (b k a) (by injection he)))) b,h3⟩
end
section
variable {P:Program} {ops:Array Oper} {rest:List Oper} {o:Oper} {a:Act} {Q:Exit->Act->World->Prop} {α:Type}
end
end Kd
end Go.Proofs.YtlhlpfnljglhoaaDoorW.PrintWords
end
section
namespace Go.Proofs.YtlhlpfnljglhoaaDoorW.PrintWords
open Go.RowKit
namespace Kd
section
variable {α:Type} {n:Nat} {d:Kd α} {hs:0 < d.sz} {w:World} {base:Nat} {ok:Nat->Prop} {xs:List α} {cs:List Value}
end
section
variable {α:Type} {n:Nat} {enc:α->Value} {h1:∀ x,(enc x).oneCell'=true} {hs:0 < (scalar enc h1).sz} {w:World} {base:Nat} {ok:Nat->Prop} {xs:List α} {cs:List Value}
end
end Kd
end Go.Proofs.YtlhlpfnljglhoaaDoorW.PrintWords
end
section
namespace Go.Proofs.YtlhlpfnljglhoaaDoorW.PrintWords
open Go.RowKit
namespace Kd
section
variable {α:Type} {d:Kd α} {e base g n c:Nat} {ok:Nat->Prop} {w w0 W:World} {A:Option Addr} {xs:List α}
theorem GS(h:d.R e W base ok (.slice A n c) xs)(b:∀k,ok k->k≠g):∀a,Ah W a g none->d.C a A n xs:=λa j=>by
  have i:=At (Br h j b)
  rw[i.1]
  exact i.2.2
theorem GR(h:∀a,Ah w a g none->d.C a A n xs)(b:Ah w W g none):d.C W A n xs:=h W b
end
end Kd
end Go.Proofs.YtlhlpfnljglhoaaDoorW.PrintWords
end
section
namespace Go.Proofs.YtlhlpfnljglhoaaDoorW.PrintWords
open Go.RowKit
def Kept(w W:World)(S:Nat->Prop):Prop:=w.heap.size≤W.heap.size∧∀i,i<w.heap.size->¬ S i->W.heap[i]?=w.heap[i]?
section
variable {w W W2:World} {S S2 S':Nat->Prop}
theorem Kept.refl(w:World)(S:Nat->Prop):Kept w w S:=⟨RB _,λ_ _ _=>rfl⟩
theorem Kept.Dl(h:Below w.heap.size w W)(S:Nat->Prop):Kept w W S:=⟨h.size,λi hi _=>h.block i hi⟩
theorem Kept.KS(h:Kept w W S)(k:Kept W W2 S2)(hs:∀k,S2 k->S k∨w.heap.size≤k):Kept w W2 S :=
  ⟨RJ h.1 k.1,λi hi a=>(k.2 i (R_ hi h.1) (λb=>(hs i b).elim a (λh3=>by omega))).trans (h.2 i hi a)⟩
theorem Kept.DJ{row:Option Nat}(hg:W.grownBy W2 row)(h:Kept w W S)(b:∀k,row=some k->S k∨w.heap.size≤k):Kept w W2 S :=
  h.KS (S2:=λk=>row=some k) ⟨hg.size,λi hi a=>hg.block i hi (λhe=>a he.symm)⟩ b
theorem Kept.below(h:Kept w W S)(a:Below W.heap.size W W2):Kept w W2 S:=h.KS (Kept.Dl a (λ_=>False)) (λ_ b=>b.elim)
theorem Kept.drew(h:Kept w W S):Kept w W.drew S:=h
theorem Kept.setCell(h:Kept w W S){p:Addr}(c:S p.block∨w.heap.size≤p.block)(u:Value):Kept w (W.setCell p u) S :=
  h.KS (S2:=λk=>k=p.block) ⟨by simp[World.setCell],λi _ b=>Su W p u i b⟩ (λk a=>by rw[a];exact c)
theorem Kept.Ot{g:Nat}(h:Kept w W S)(k:Ah W W2 g none)(hg:S g∨w.heap.size≤g):Kept w W2 S :=
  h.KS (S2:=λk=>k=g) ⟨k.1,λi hi b=>k.2 i hi b (by simp)⟩ (λk a=>by rw[a];exact hg)
theorem Kw{g:Nat}{o:Obj}(b:W.heap[g]?=some o)(c:Kept W W2 S)(a:¬ S g):W2.heap[g]?=some o:=(c.2 g (Av b) a).trans b
end
namespace Kd
section
variable {α:Type} {d:Kd α} {e base n c:Nat} {ok oki S S2:Nat->Prop} {w w0 W W1 W2:World} {v:Value} {A:Option Addr} {xs:List α} {i:Int} {cs:List Value}
theorem Pw(h:d.R e W base ok v xs)(c:Kept W W2 S)(b:∀k,ok k->¬ S k):d.R e W2 base ok v xs:=Eo h (λk g a=>c.2 k a (b k g))
end
end Kd
end Go.Proofs.YtlhlpfnljglhoaaDoorW.PrintWords
end
section
namespace Go.Proofs.YtlhlpfnljglhoaaDoorW.PrintWords
open Go.RowKit
def Cx(P:World->Prop)(W:World)(ok:Nat->Prop):Prop:=∀a:World,(∀k,ok k->k<W.heap.size->a.heap[k]?=W.heap[k]?)->P a
theorem Of{W W1:World}{k:Nat}(h:W1.heap[k]?=W.heap[k]?)(a:k<W.heap.size):k<W1.heap.size:=by rw[Array.getElem?_eq_getElem a]at h;exact(SO.1 h).1
namespace Cx
variable {P Q:World->Prop} {W W1:World} {ok Fi:Nat->Prop}
theorem now(h:Cx P W ok):P W:=h W (λ_ _ _=>rfl)
theorem mono(h:Cx P W ok)(b:∀k,ok k->Fi k):Cx P W Fi:=λc d=>h c (λk e a=>d k (b k e) a)
theorem bound(h:Cx P W ok):Cx P W (λk=>ok k∧k<W.heap.size):=λb c=>h b (λk d a=>c k ⟨d,a⟩ a)
theorem step(h:Cx P W ok)(hm:∀k,ok k->k<W.heap.size->W1.heap[k]?=W.heap[k]?):Cx P W1 ok:=λc d=>h c (λk b a=>(d k b (Of (hm k b a) a)).trans (hm k b a))
theorem imp(h:Cx P W ok)(hi:∀a,P a->Q a):Cx Q W ok:=λa b=>hi a (h a b)
theorem Rl(h:Cx P W ok)(b:Below W.heap.size W W1):Cx P W1 (λk=>ok k∧k<W.heap.size):=(h.bound).step (λk _ a=>b.block k a)
end Cx
namespace Kd
def F{α:Type}(d:Kd α)(W:World)(ok:Nat->Prop)(A:Option Addr)(n:Nat)(xs:List α):Prop:=Cx (λW=>d.C W A n xs) W ok
def FK{α:Type}(d:Kd α)(W:World)(ok:Nat->Prop)(x:α)(c:List Value):Prop:=Cx (λW=>d.K W x c) W ok
section
variable {α β:Type} {d:Kd α} {e base n n' cc g N:Nat} {ok Fi okp S:Nat->Prop} {w w0 w1 W W1:World} {A A':Option Addr} {u v v1:Value} {xs:List α} {xs':List β} {d':Kd β} {x:α} {c:List Value}
theorem ME(h:F d W ok A n xs):d.C W A n xs:=Cx.now h
theorem Gl(h:F d W ok A n xs)(a:∀k,ok k->Fi k):F d W Fi A n xs:=Cx.mono h a
theorem JM(h:F d W ok A n xs):F d W (λk=>ok k∧k<W.heap.size) A n xs:=Cx.bound h
theorem H_(h:F d W ok A n xs)(hm:∀k,ok k->k<W.heap.size->W1.heap[k]?=W.heap[k]?):F d W1 ok A n xs:=Cx.step h hm
theorem OM(h:F d W ok A n xs)(hi:∀a,d.C a A n xs->d'.C a A' n' xs'):F d' W ok A' n' xs':=Cx.imp h hi
theorem JL(h:F d W ok A n xs)(b:Below W.heap.size W W1):F d W1 ok A n xs:=H_ h (λk _ a=>b.block k a)
theorem Pg(h:F d W ok A n xs):F d W.drew ok A n xs:=JL h (E2 (RG _ _))
theorem NX(h:F d W ok A n xs)(m:Nat):F d (W.drewN m) ok A n xs:=JL h (Au (RG _ _) m)
theorem NY(h:F d W ok A n xs){row:Option Nat}(hg:W.grownBy W1 row)(b:∀k,ok k->some k≠row):F d W1 ok A n xs:=H_ h (λk c a=>hg.block k a (b k c))
theorem Qe(h:F d W ok A n xs){p:Addr}(a:∀k,ok k->k≠p.block)(u:Value):F d (W.setCell p u) ok A n xs:=H_ h (λk b _=>Su W p u k (a k b))
theorem Ph(h:F d W ok A n xs)(c:Ah W W1 g none)(b:∀k,ok k->k≠g):F d W1 ok A n xs:=H_ h (λk e a=>c.2 k a (b k e) (by simp))
theorem Pj(h:F d W ok A n xs)(c:Kept W W1 S)(b:∀k,ok k->¬ S k):F d W1 ok A n xs:=H_ h (λk e a=>c.2 k a (b k e))
theorem Qg(d:Kd α)(W:World)(ok:Nat->Prop):F d W ok none ([]:List α).length []:=λa _=>Qc d a
theorem MC(h:F d W ok A n xs)(a:∀k,v.ownBlock=some k->W.heap.size≤k)(c:Below W.heap.size W W1):F d W1 (λk=>ok k∧some k≠v.ownBlock) A n xs :=
  Gl (Cx.Rl h c) (λk b=>⟨b.1,λhe=>by have:=a k he.symm;have:=b.2;omega⟩)
theorem MD(h:F d W ok A n xs)(a:Nat)(c:W.heap.size≤a):F d W (λk=>ok k∧k≠a) A n xs:=Gl (JM h) (λk b=>⟨b.1,by have:=b.2;omega⟩)
theorem NW(h:F d W (λk=>ok k∧some k≠v.ownBlock) A n xs)(hg:W.grownBy W1 v.ownBlock)(a:v1.ownBlock=v.ownBlock∨∃b,v1.ownBlock=some b∧W.heap.size≤b):F d W1 (λk=>ok k∧some k≠v1.ownBlock) A n xs:=by
 refine Gl (Cx.step (JM h) (λk c e=>hg.block k e c.1.2)) (λk c=>⟨c.1.1,?_⟩);rcases a with a|⟨b,g,hle⟩
 ·rw[a];exact c.1.2
 rw[g];intro he;injection he with he;have:=c.2;omega
theorem Qh(h:F d W ok A n xs)(a:Below W.heap.size W W1):F d W1 (λk=>ok k∧k<W.heap.size) A n xs:=Cx.Rl h a
theorem Pm(h:F d W1 (λk=>ok k∧k<N) A n xs)(a:∀k,v.ownBlock=some k->N≤k):F d W1 (λk=>(ok k∧some k≠v.ownBlock)∧k<N) A n xs :=
  Gl h (λk b=>⟨⟨b.1,λhe=>TC _ (R_ b.2 (a k he.symm))⟩,b.2⟩)
theorem Rq(h:d.R e W base ok (.slice A n cc) xs):F d W ok A n xs:=λc b=>by
  have a:=At (Eo h b)
  rw[a.1]
  exact a.2.2
theorem FC(h:FK d W ok x c):d.K W x c:=Cx.now h
theorem Gy(h:FK d W ok x c)(a:∀k,ok k->Fi k):FK d W Fi x c:=Cx.mono h a
theorem IP(h:FK d W ok x c):FK d W (λk=>ok k∧k<W.heap.size) x c:=Cx.bound h
theorem Hb(h:FK d W ok x c)(hm:∀k,ok k->k<W.heap.size->W1.heap[k]?=W.heap[k]?):FK d W1 ok x c:=Cx.step h hm
theorem NV(h:d.M W base ok x c):FK d W ok x c:=λ_ a=>d.C_ (KV h a)
theorem Oc(W:World)(g:Nat):∃c:World,(∀k,k≠g->c.heap[k]?=W.heap[k]?)∧∀a:Addr,a.block=g->c.cell? a=none:=by
 refine⟨{ W with heap:=W.heap.setIfInBounds g (.cells #[] 0) },λk e=>by simp[Ne.symm e],λa d=>?_⟩;subst d;by_cases b:a.block<W.heap.size
 ·simp[World.cell?,b]
 simp[World.cell?,b]
end
end Kd
end Go.Proofs.YtlhlpfnljglhoaaDoorW.PrintWords
end
section
namespace Go.Proofs.YtlhlpfnljglhoaaDoorW.PrintWords
open Go.RowKit
section
variable {P:Program}
end
namespace Kd
section
variable {P:Program} {ops:Array Oper} {rest:List Oper} {o:Oper} {a:Act} {Q:Exit->Act->World->Prop} {Kc:Act->World->Prop} {α:Type}
end
section
variable {α:Type} {d:Kd α} {e:Nat} {w:World} {base:Nat} {ok:Nat->Prop} {v:Value} {xs:List α}
end
section
variable {P:Program} {ops:Array Oper} {rest:List Oper} {o:Oper} {a:Act} {Q:Exit->Act->World->Prop} {Kc:Act->World->Prop} {α:Type}
end
end Kd
end Go.Proofs.YtlhlpfnljglhoaaDoorW.PrintWords
end
section
namespace Go.Proofs.YtlhlpfnljglhoaaDoorW.PrintWords
open Go.RowKit
namespace Kd
def chunks(sz:Nat)(n:Nat)(inner:List Value):List (List Value):=(List.range n).map λj=>(inner.drop (j*sz)).take sz
theorem C1(sz n:Nat)(inner:List Value):(chunks sz n inner).length=n:=by simp[chunks]
theorem Me{sz n:Nat}{inner:List Value}{j:Nat}(a:j<n):(chunks sz n inner)[j]?=some ((inner.drop (j*sz)).take sz):=by simp[chunks,a]
theorem FH{sz n:Nat}{inner:List Value}{j:Nat}{c:List Value}(h:(chunks sz n inner)[j]?=some c):c=(inner.drop (j*sz)).take sz:=by
 have a:j<n:=by have:=(RL.1 h).1;rwa[C1]at this
 rw[Me a]at h;injection h with h;exact h.symm
theorem KL{α:Type}{b:α->List Value->Prop}{sz:Nat}{xs:List α}{inner:List Value}(h:Bn b sz xs inner)(hR:∀x c,b x c->c.length=sz∧∀u∈c,u.oneCell'=true):Bn (λx cs=>cs=x∧cs.length=sz∧∀u∈cs,u.oneCell'=true) sz (chunks sz xs.length inner) inner:=by
 refine⟨by rw[C1];exact h.1,λj p d=>?_⟩;have a:j<xs.length:=by have:=(RL.1 d).1;rwa[C1]at this
 have e:=FH d;exact⟨e.symm,hR _ _ (h.2 j _ (RD a))⟩
section
variable {α:Type} {d:Kd α} {e base n cc g:Nat} {ok Fi okp S:Nat->Prop} {w w1 W W1:World} {A:Option Addr} {u v v1:Value} {xs:List α} {x:α} {c:List Value}
theorem Qf(h:F d W ok A n xs)(z:α)(i:Int)(h0:0≤i)(h1:i<n) :
    ∃ad c,A=some ad∧c.length=d.sz∧FK d W ok (xs.getD i.toNat z) c∧(∀j u,c[j]?=some u->W.cell? (ad.add (i.toNat*d.sz+j))=some u)∧(0<d.sz->ok ad.block):=by
 obtain⟨ad,c,rfl,t,hK,b⟩:=IL (ME h) z i h0 h1
 have o:0<d.sz->ok ad.block:=by
  intro hs;by_cases y:ok ad.block
  ·exact y
  obtain⟨g,B,h3⟩:=Oc W ad.block;obtain⟨p,w,he,m,_,a⟩:=IL (h g (λk v _=>B k (λe=>y (e ▸ v)))) z i h0 h1;injection he with he;subst he;have h4:=a 0 _ (RD (by omega));rw[h3 _ (FB _ _)]at h4;cases h4
 refine⟨ad,c,rfl,t,λg x=>?_,b,o⟩;obtain⟨p,w,he,m,r,a⟩:=IL (h g x) z i h0 h1;injection he with he;subst he
 have G:c=w:=by
  apply S9
  intro j;by_cases I:j<d.sz
  ·have E:g.heap[ad.block]?=W.heap[ad.block]?:=by have q:=b j _ (RD (by omega));have l:=Tc W _ q;rw[FB]at l;exact x _ (o (by omega)) l
   have q:=b j _ (RD (by omega));have l:=a j _ (RD (by omega));have D:g.cell? (ad.add (i.toNat*d.sz+j))=W.cell? (ad.add (i.toNat*d.sz+j)):=by simp[World.cell?,FB,E]
   rw[D,q]at l;rw[RD (by omega),RD (by omega)];exact l
  rw[SC (by omega),SC (by omega)]
 rw[G];exact r
theorem Pk(h:F d W ok A n xs):C0 (λx c=>FK d W ok x c) d.sz W A n xs:=by obtain⟨hl,hm,l⟩:=ME h;refine⟨hl,hm,λm=>?_⟩;obtain⟨ad,rfl,_⟩:=l m;refine⟨ad,rfl,λj p e=>?_⟩;obtain⟨i,k⟩:=RL.1 e;obtain⟨g,c,he,b,hK,a,_⟩:=Qf h p (j:Int) (by omega) (by omega);injection he with he;subst he;simp only[Int.toNat_natCast]at hK a;rw[RS,e]at hK;exact⟨c,b,hK,a⟩
def N{α:Type}(d:Kd α)(e:Nat)(w:World)(base:Nat)(ok:Nat->Prop)(v:Value)(xs:List α):Prop :=
  (∀k,v.ownBlock=some k->ok k)∧∃rows:List (List Value),rows.length=xs.length∧(raw d.sz).R e w base (λk=>some k=v.ownBlock) v rows∧∀(j:Nat) (x:α) (c:List Value),xs[j]?=some x->rows[j]?=some c->FK d w (λk=>ok k∧some k≠v.ownBlock) x c
theorem Ik{sz:Nat}{rows:List (List Value)}(h:(raw sz).R e w base ok v rows):(raw sz).R e w base (λk=>some k=v.ownBlock) v rows:=E_ rfl h
theorem Ke{sz:Nat}{rows:List (List Value)}(h:(raw sz).R e w base ok v rows):(raw sz).R e w base (λ_=>True) v rows:=Ai h (λ_ _=>trivial)
theorem Rs(h:d.R e w base ok v xs):N d e w base ok v xs:=by obtain⟨h0,inner,l,b⟩:=h;refine⟨h0,chunks d.sz xs.length inner,C1 _ _ _,⟨λk i=>i.symm,inner,by rw[C1];exact l,KL b (λx c a=>⟨d.Ei (d.C_ a),d.D7 (d.C_ a)⟩)⟩,λj x c m g=>?_⟩;rw[FH g];exact NV (b.2 j x m)
theorem Rg(h:Kd.S d e w base ok v xs):N d e w base ok v xs:=Rs (L_ h)
theorem Gm(h:N d e w base ok v xs)(a:∀k,ok k->Fi k):N d e w base Fi v xs:=by obtain⟨h0,rows,hl,hR,i⟩:=h;exact⟨λk b=>a k (h0 k b),rows,hl,hR,λj x c l g=>Gy (i j x c l g) (λk b=>⟨a k b.1,b.2⟩)⟩
theorem Ko(h:N d e w base ok v xs):∀k,v.ownBlock=some k->k<w.heap.size:=by obtain⟨_,rows,_,hR,_⟩:=h;exact EH hR
theorem Pq(h:N d e w base ok v xs):∀k,v.ownBlock=some k->base≤k:=by obtain⟨_,rows,_,hR,_⟩:=h;exact Ch hR
theorem Hc(h:N d e w base ok v xs):N d e w base (λk=>ok k∧k<w.heap.size) v xs:=by have b:=Ko h;obtain⟨h0,rows,hl,hR,i⟩:=h;exact⟨λk a=>⟨h0 k a,b k a⟩,rows,hl,hR,λj x c l g=>Gy (IP (i j x c l g)) (λk a=>⟨⟨a.1.1,a.2⟩,a.1.2⟩)⟩
theorem Lt{Ew:Nat}(h:N d e w base ok v xs)(a:Ew≤base):N d e w Ew ok v xs:=by obtain⟨h0,rows,hl,hR,b⟩:=h;exact⟨h0,rows,hl,AU hR a,b⟩
theorem Ia(h:N d e w base ok v xs)(hm:∀k,ok k->k<w.heap.size->w1.heap[k]?=w.heap[k]?):N d e w1 base ok v xs:=by obtain⟨h0,rows,hl,hR,i⟩:=h;exact⟨h0,rows,hl,Eo hR (λk b a=>hm k (h0 k b.symm) a),λj x c l g=>Hb (i j x c l g) (λk b a=>hm k b.1 a)⟩
theorem JN(h:N d e w base ok v xs)(a:Below w.heap.size w w1):N d e w1 base ok v xs:=Ia h (λk _ b=>a.block k b)
theorem MG(h:N d e w base ok v xs):N d e w.drew base ok v xs:=JN h (E2 (RG _ _))
theorem JP(h:N d e w base ok v xs){row:Option Nat}(hg:w.grownBy w1 row)(a:∀k,ok k->some k≠row):N d e w1 base ok v xs:=Ia h (λk c b=>hg.block k b (a k c))
theorem N1(h:N d e W base (λk=>ok k∧some k≠u.ownBlock) v xs){u1:Value}(hg:W.grownBy w1 u.ownBlock)(a:u1.ownBlock=u.ownBlock∨∃b,u1.ownBlock=some b∧W.heap.size≤b):N d e w1 base (λk=>ok k∧some k≠u1.ownBlock) v xs:=by
 refine Gm (Ia (Hc h) (λk c g=>hg.block k g c.1.2)) (λk c=>⟨c.1.1,?_⟩);rcases a with a|⟨b,i,hle⟩
 ·rw[a];exact c.1.2
 rw[i];intro he;injection he with he;have:=c.2;omega
theorem C3(h:N d e w base ok v xs):∃A c,v=.slice A xs.length c:=by obtain⟨_,rows,hl,hR,_⟩:=h;obtain⟨A,c,he⟩:=Be hR;exact⟨A,c,by rw[he,hl]⟩
theorem JO(h:N d e w base ok v xs)(a:0<xs.length):∃g cap,v=.slice (some ⟨g,0,none⟩) xs.length cap∧base≤g∧g<w.heap.size∧∃cells,w.heap[g]?=some (.cells cells e (0,0)):=by obtain⟨_,rows,hl,hR,_⟩:=h;rw[<-hl]at a⊢;exact IV hR a
theorem Fp{n c:Nat}(h:N d e w base ok (.slice A n c) xs):n=xs.length∧n≤c∧d.C w A xs.length xs:=by
 obtain⟨_,rows,hl,hR,q⟩:=h;obtain⟨u,o,g⟩:=At hR;refine⟨by omega,o,?_⟩;rw[hl]at g;refine⟨rfl,g.2.1,λt=>?_⟩;obtain⟨ad,he,a⟩:=g.2.2 t;refine⟨ad,he,λj p m=>?_⟩;have b:j<rows.length:=by have:=(RL.1 m).1;omega
 obtain⟨l,k,hK,i⟩:=a j _ (RD b);have r:=FC (q j p _ m (RD b));refine⟨l,k,?_,i⟩;rw[show l=rows[j]from hK.1];exact r
theorem Rf{n:Nat}(h:N d e w base ok (.slice A n cc) xs):F d w ok A n xs:=λc b=>by
  have a:=Fp (Ia h b)
  rw[a.1]
  exact a.2.2
theorem KW{n cap:Nat}(h:N d e W base ok (.slice (some ⟨g,0,none⟩) n cap) xs)(z:α)(i:Int)(h0:0≤i)(h1:i<n) :
    ∃c,c.length=d.sz∧FK d W (λk=>ok k∧k≠g) (xs.getD i.toNat z) c∧(∀j u,c[j]?=some u->W.cell? ⟨g,i.toNat*d.sz+j,none⟩=some u)∧∀j,W.frozen? ⟨g,i.toNat*d.sz+j,none⟩=false:=by
 obtain⟨_,rows,hl,hR,v⟩:=h;have w:=(At hR).1;obtain⟨c,m,r,l,o⟩:=GW hR [] i h0 h1;have b:i.toNat<rows.length:=by omega
 have a:i.toNat<xs.length:=by omega
 have t:c=rows[i.toNat]:=by have q:=r.1;rwa[RS,RD b]at q
 refine⟨c,m,?_,l,o⟩;rw[RS,RD a];exact Gy (v _ _ _ (RD a) (by rw[t];exact RD b)) (λk p=>⟨p.1,λhe=>p.2 (by rw[he];simp[Value.ownBlock])⟩)
end
end Kd
end Go.Proofs.YtlhlpfnljglhoaaDoorW.PrintWords
end
section
namespace Go.Proofs.YtlhlpfnljglhoaaDoorW.PrintWords
open Go.RowKit
namespace Kd
section
variable {α:Type} {d:Kd α} {W:World} {g n:Nat} {S ok:Nat->Prop} {A:Option Addr} {ad:Addr} {xs:List α}
end
end Kd
end Go.Proofs.YtlhlpfnljglhoaaDoorW.PrintWords
end
section
namespace Go.Proofs.YtlhlpfnljglhoaaDoorW.PrintWords
open Go.RowKit
section
variable {w w' u:World} {m B g:Nat} {o:Obj} {row:Option Nat} {S:Nat->Prop} {a:Addr} {v:Value}
end
namespace Kd
section
variable {α:Type} {d:Kd α} {e base n m:Nat} {ok:Nat->Prop} {w w':World} {v:Value} {A:Option Addr} {xs:List α}
end
end Kd
end Go.Proofs.YtlhlpfnljglhoaaDoorW.PrintWords
end
section
namespace Go.Proofs.YtlhlpfnljglhoaaDoorW.PrintWords
open Go.RowKit
section
variable {P:Program} {d:Nat} {xs ys:Array Value} {f:Field} {fs:List Field} {a b:Value} {r s:Bool} {w:World}
theorem I0(i:(f.name == "_")=false)(e:(part f.type xs f.offset).run P w=.ok a w)(g:(part f.type ys f.offset).run P w=.ok b w)(he:(Op.equalIn d f.type a b).run P w=.ok r w):(Op.eqFields d xs ys [f]).run P w=.ok r w:=by
 have c:f.name ≠ "_" := by simpa using i
 simp only[Op.eqFields,if_pos c,Sem.run_bind,e,g,he,Result.andThen_ok];cases r <;> simp
theorem Fq(i:(f.name == "_")=false)(e:(part f.type xs f.offset).run P w=.ok a w)(g:(part f.type ys f.offset).run P w=.ok b w)(he:(Op.equalIn d f.type a b).run P w=.ok r w)(j:(Op.eqFields d xs ys fs).run P w=.ok s w):(Op.eqFields d xs ys (f::fs)).run P w=.ok (r&&s) w:=by
 have c:f.name ≠ "_" := by simpa using i
 rw[Op.eqFields];simp only[if_pos c,Sem.run_bind,e,g,he,Result.andThen_ok];cases r
 ·simp
 simpa using j
theorem K8{t:TypeId}{fs:Array Field}(hu:P.underlying t=some (.struct fs))(b:P.stoodInHeld t=false)(h:(Op.eqFields d xs ys fs.toList).run P w=.ok r w):(Op.equalIn (d+1) t (.agg xs) (.agg ys)).run P w=.ok r w:=by
 have a:P.fieldsOf t=fs:=by simp[Program.fieldsOf,hu]
 rw[run_equalIn_struct (P:=P) w d t xs ys (by rw[a];exact hu) b,a];exact h
end
end Go.Proofs.YtlhlpfnljglhoaaDoorW.PrintWords
end
section
namespace Go.Proofs.YtlhlpfnljglhoaaDoorW.Bb
open Go.Proofs.YtlhlpfnljglhoaaDoorW.PrintWords (Ac)
def GI(md:Region.Mode)(o:Oper):List Nat:=(o.after.toList.filter (λe=>Region.binds md e)).map (λe=>e.on)
def JY(md:Region.Mode)(ops:Array Oper)(i:Nat)(b:Oper):List Nat:=(List.range ops.size).filter λj=>!(j==i)&&match ops[j]? with
  | some a=>!(a.after.any (λe=>Region.binds md e&&e.on==i) || b.apart ops a)
  | none=>false
def EK(md:Region.Mode)(ops:Array Oper):Bool×List (List Nat×List Nat):=(Region.noSelect ops,(List.range ops.size).map λi=>match ops[i]? with
  | some o=>(GI md o,JY md ops i o)
  | none=>([],[]))
def FP(T:List (List Nat×List Nat))(l:List Bool)(i:Nat):Bool:=!l.getD i true&&match T[i]? with
  | some r=>r.1.all (λj=>l.getD j false)
  | none=>false
def Im(T:List (List Nat×List Nat))(l:List Bool):List Nat:=(List.range T.length).filter (FP T l)
def Kz(T:List (List Nat×List Nat))(l:List Bool)(i:Nat):Bool:=match T[i]? with
  | some r=>r.2.all (λj=>l.getD j true)
  | none=>false
def IG(T:List (List Nat×List Nat))(l:List Bool):Bool:=(List.range T.length).all λj=>!l.getD j false || match T[j]? with
  | some r=>r.1.all (λk=>l.getD k false)
  | none=>true
def Il(T:List (List Nat×List Nat))(i:Nat):Nat->Nat->Bool
  | 0,_=>false
  | fuel+1,d=>match T[d]? with
    | some r=>r.1.any λj=>j==i || Il T i fuel j
    | none=>false
def LV(T:List (List Nat×List Nat))(l:List Bool)(ds:List Nat)(i:Nat):Bool:=ds.all λd=>l.getD d true || Il T i T.length d
section
variable {md:Region.Mode} {ops:Array Oper} {T:Bool×List (List Nat×List Nat)} {l l' li lj lk:Array Bool} {ds:List Nat} {i j k:Nat}
theorem gd(l:Array Bool)(j:Nat)(b:Bool):l.getD j b=l.toList.getD j b:=by simp[Array.getD_eq_getD_getElem?,List.getD_eq_getElem?_getD]
theorem Jy(o:Oper)(p:Nat->Bool):o.after.all (λe=>!Region.binds md e || p e.on)=(GI md o).all p:=by
 unfold GI;rw[<-Array.all_toList];induction o.after.toList with
 | nil=>rfl
 | cons e r a =>
   rw[List.all_cons,a,List.filter_cons]
   cases h:Region.binds md e <;> simp
theorem Mo(o:Oper)(p:Nat->Bool):o.after.any (λe=>Region.binds md e&&p e.on)=(GI md o).any p:=by
 unfold GI;rw[<-Array.any_toList];induction o.after.toList with
 | nil=>rfl
 | cons e r a =>
   rw[List.any_cons,a,List.filter_cons]
   cases h:Region.binds md e <;> simp
theorem FQ:(EK md ops).2.length=ops.size:=by simp[EK]
theorem GM{o:Oper}(h:ops[i]?=some o):(EK md ops).2[i]?=some (GI md o,JY md ops i o):=by have hi:=(SO.1 h).1;unfold EK;rw[Tt,List.getElem?_range hi,Option.map_some,h]
theorem GL(h:ops[i]?=none):(EK md ops).2[i]?=none:=by have hi:ops.size≤i:=Array.getElem?_eq_none_iff.1 h;exact SC (by rw[FQ];exact hi)
theorem Lj:FP (EK md ops).2 l.toList i=(!l.getD i true&&((ops[i]?).map (·.after.all λe=>!Region.binds md e || l.getD e.on false)).getD false):=by
 unfold FP;rw[gd];cases h:ops[i]? with
 | none=>rw[GL h];rfl
 | some o =>
   rw[GM h]
   simp only[Option.map_some,Option.getD_some]
   rw[<-Jy]
   simp only[gd]
theorem HZ:Region.ready md ops l=Im (EK md ops).2 l.toList:=by unfold Region.ready Im;rw[FQ];refine List.filter_congr (λi _=>?_);rw[Lj]
theorem LP:Region.free md ops l i=Kz (EK md ops).2 l.toList i:=by
 unfold Region.free Kz;cases h:ops[i]? with
 | none=>rw[GL h]
 | some b =>
   rw[GM h]
   simp only[JY]
   rw[List.all_filter]
   congr 1
   funext j
   rw[gd]
   cases hj:ops[j]? with
   | none=>cases (j==i) <;> cases (l.toList.getD j true) <;> simp
   | some a =>
     cases (j==i) <;> cases (l.toList.getD j true) <;> cases (a.after.any (λe=>Region.binds md e&&e.on==i) || b.apart ops a) <;> simp_all
theorem Mg:Region.Hj md ops l=IG (EK md ops).2 l.toList:=by
 unfold Region.Hj IG;rw[FQ];congr 1;funext j;rw[gd];cases h:ops[j]? with
 | none=>rw[GL h]
 | some o =>
   rw[GM h]
   simp only
   rw[<-Jy]
   simp only[gd]
theorem KJ:∀(fuel d:Nat),Region.Fw md ops i fuel d=Il (EK md ops).2 i fuel d
  | 0,_=>rfl
  | fuel+1,d=>by
    unfold Region.Fw Il
    cases h:ops[d]? with
    | none=>rw[GL h]
    | some o =>
      rw[GM h]
      simp only
      rw[<-Mo]
      congr 1
      funext e
      rw[KJ fuel]
theorem Om:Region.LU md ops l ds i=LV (EK md ops).2 l.toList ds i:=by unfold Region.LU LV;rw[FQ];congr 1;funext d;rw[gd,KJ]
theorem Iv(h:FP T.2 l.toList i=true)(b:EK md ops=T):(Region.ready md ops l).contains i=true:=by
 subst b;rw[HZ];unfold Im;rw[List.contains_iff_mem,List.mem_filter,List.mem_range];refine⟨?_,h⟩;unfold FP at h;rw[TX]at h;cases a:(EK md ops).2[i]? with
 | none=>rw[a]at h;simp at h
 | some r=>exact(RL.1 a).1
theorem I6(h:(l.toList.set i true==l'.toList)=true):(l.setIfInBounds i true==l')=true:=by rw[RO]at h⊢;apply Array.ext';rw[TM];exact h
def Qt(T:Bool×List (List Nat×List Nat))(l l':List Bool)(i:Nat):Bool:=T.1&&Kz T.2 l i&&FP T.2 l i&&(l.set i true==l')
theorem GX(a:EK md ops=T)(h:Qt T l.toList l'.toList i=true):Ma md ops l l' i=true:=by simp only[Qt,Bool.and_eq_true]at h;obtain⟨⟨⟨h1,b⟩,h3⟩,h4⟩:=h;have c:=Iv h3 a;have d:=I6 h4;subst a;simp only[Ma,Bool.and_eq_true];exact⟨⟨⟨h1,by rw[LP];exact b⟩,c⟩,d⟩
def NL(T:Bool×List (List Nat×List Nat))(ds:List Nat)(l l':List Bool)(i:Nat):Bool:=T.1&&Kz T.2 l i&&FP T.2 l i&&IG T.2 l&&LV T.2 l ds i&&(l.set i true==l')
theorem OE(a:EK md ops=T)(h:NL T ds l.toList l'.toList i=true):EU md ops ds l l' i=true:=by simp only[NL,Bool.and_eq_true]at h;obtain⟨⟨⟨⟨⟨h1,b⟩,h3⟩,h4⟩,c⟩,d⟩:=h;have e:=Iv h3 a;have g:=I6 d;subst a;simp only[EU,Bool.and_eq_true];exact⟨⟨⟨⟨⟨h1,by rw[LP];exact b⟩,e⟩,by rw[Mg];exact h4⟩,by rw[Om];exact c⟩,g⟩
theorem Gc(b:EK md ops=T)(h:(Im T.2 l.toList==[i]&&l.toList.set i true==l'.toList)=true):G8 md ops l l' i=true:=by simp only[Bool.and_eq_true]at h;obtain⟨h1,a⟩:=h;subst b;simp only[G8,Bool.and_eq_true];exact⟨by rw[HZ];exact h1,I6 a⟩
theorem NN(b:EK md ops=T)(h:(Im T.2 l.toList==[i,j]&&l.toList.set i true==li.toList&&l.toList.set j true==lj.toList)=true):(Region.ready md ops l==[i,j]&&l.setIfInBounds i true==li&&l.setIfInBounds j true==lj)=true:=by simp only[Bool.and_eq_true]at h⊢;obtain⟨⟨h1,a⟩,h3⟩:=h;subst b;exact⟨⟨by rw[HZ];exact h1,I6 a⟩,I6 h3⟩
theorem CT(a:EK md ops=T)(h:(Im T.2 l.toList==[])=true):(Region.ready md ops l==[])=true:=by subst a;rw[HZ];exact h
def P4(B:List Nat)(d:Nat):List Nat->Nat
  | []=>0
  | n::r=>(2 ^ n ||| (if n<d then B.getD n 0 else 0)) ||| P4 B d r
def DS(T:List (List Nat×List Nat))(B:List Nat):Bool:=(List.range T.length).all λd=>match T[d]? with
  | some r=>(B.getD d 0 ||| P4 B d r.1)==P4 B d r.1
  | none=>false
theorem L8{B:List Nat}{d i:Nat}:∀{b:List Nat},(P4 B d b).testBit i=true->∃n∈b,n=i∨(n<d∧(B.getD n 0).testBit i=true)
  | [],h=>by simp[P4]at h
  | n::r,h=>by
    unfold P4 at h
    rw[Nat.testBit_or,Nat.testBit_or,T9,T9]at h
    rcases h with(h|h)|h
    · rw[Nat.testBit_two_pow]at h
      exact⟨n,RI,.inl (by simpa using h)⟩
    · by_cases a:n<d
      · rw[Ry a]at h
        exact⟨n,RI,.inr ⟨a,h⟩⟩
      · rw[Rz a]at h
        simp at h
    · obtain⟨m,hm,c⟩:=L8 h
      exact⟨m,RU _ hm,c⟩
theorem JB{T:List (List Nat×List Nat)}{B:List Nat}(hB:DS T B=true):∀(fuel d:Nat),d<fuel->d<T.length->(B.getD d 0).testBit i=true->Il T i fuel d=true
  | 0,d,h,_,_=>by omega
  | fuel+1,d,h,g,e=>by
    have h1:=Tx.1 hB d (List.mem_range.2 g)
    cases a:T[d]? with
    | none=>rw[a]at h1;simp at h1
    | some r =>
      rw[a]at h1
      simp only[beq_iff_eq]at h1
      have b:(P4 B d r.1).testBit i=true:=by rw[<-h1,Nat.testBit_or,e,T1]
      obtain⟨n,j,h3⟩:=L8 b
      unfold Il
      rw[a]
      simp only
      rw[List.any_eq_true]
      refine⟨n,j,?_⟩
      rcases h3 with rfl|⟨h4,c⟩
      · simp
      · rw[JB hB fuel n (by omega) (by omega) c,Bool.or_true]
def OW(T:List (List Nat×List Nat))(B:List Nat)(l:List Bool)(ds:List Nat)(i:Nat):Bool:=ds.all λd=>l.getD d true || (decide (d<T.length)&&(B.getD d 0).testBit i)
def Pc(T:Bool×List (List Nat×List Nat))(B:List Nat)(ds:List Nat)(l l':List Bool)(i:Nat):Bool:=T.1&&Kz T.2 l i&&FP T.2 l i&&IG T.2 l&&OW T.2 B l ds i&&(l.set i true==l')
theorem C2{B:List Nat}(k:EK md ops=T)(hB:DS T.2 B=true)(h:Pc T B ds l.toList l'.toList i=true):EU md ops ds l l' i=true:=by
 refine OE k ?_;simp only[Pc,NL,Bool.and_eq_true]at h⊢;obtain⟨⟨⟨⟨⟨h1,e⟩,h3⟩,h4⟩,b⟩,g⟩:=h;refine⟨⟨⟨⟨⟨h1,e⟩,h3⟩,h4⟩,?_⟩,g⟩;unfold OW at b;unfold LV;rw[Tx]at b⊢;intro d m;have a:=b d m;rw[T9,TX,decide_eq_true_eq]at a;rcases a with a|⟨c,j⟩
 ·rw[a,T1]
 rw[JB hB _ d c c j,Bool.or_true]
theorem B1{P:Program}{Q:Exit->Act->World->Prop}{S:World->Prop}{n:Nat}{a:Act}{w:World}{B:List Nat}(b:EK md ops=T)(hB:DS T.2 B=true)(h:Ac (EK md ops=T)->Ac (DS T.2 B=true)->AB P md ops Q S ds n l a w):AB P md ops Q S ds n l a w:=h ⟨b⟩ ⟨hB⟩
end
def GO:Code->Nat->Option (Array Oper)
  | .region id ops _,k=>if id==k then some ops else none
  | .seq a b,k=>match GO a k with
    | some o=>some o
    | none=>GO b k
  | .cond _ a b,k=>match GO a k with
    | some o=>some o
    | none=>GO b k
  | .block _ c,k=>GO c k
  | .loop c,k=>GO c k
  | .scope c,k=>GO c k
  | .rangeFunc _ _ a b,k=>match GO a k with
    | some o=>some o
    | none=>GO b k
  | _,_=>none
def opsOf(f:Func)(k:Nat):Array Oper:=((f.body.bind λc=>GO c k)).getD #[]
end Go.Proofs.YtlhlpfnljglhoaaDoorW.Bb
end
section
namespace Go.Proofs.YtlhlpfnljglhoaaDoorW.Bb
section
variable {P:Program} {ops:Array Oper} {Q:Exit->Act->World->Prop} {md:Region.Mode} {S:World->Prop} {ds:List Nat} {T:Bool×List (List Nat×List Nat)}
end
end Go.Proofs.YtlhlpfnljglhoaaDoorW.Bb
end
section
namespace Go.Proofs.YtlhlpfnljglhoaaDoorW.PrintWords
open Go.RowKit
section
variable {P:Program} {ops:Array Oper} {rest:List Oper} {o:Oper} {a:Act} {Q:Exit->Act->World->Prop} {W:World}
end
end Go.Proofs.YtlhlpfnljglhoaaDoorW.PrintWords
end
section
namespace Go.Proofs.YtlhlpfnljglhoaaDoorW.Bb
section
variable {P:Program} {ops:Array Oper} {Q:Exit->Act->World->Prop} {md:Region.Mode} {T:Bool×List (List Nat×List Nat)} {B:List Nat} {O:List Nat} {b:Nat->Bool} {i j n:Nat}
end
end Go.Proofs.YtlhlpfnljglhoaaDoorW.Bb
end
section
namespace Go.Proofs.YtlhlpfnljglhoaaDoorW.PrintWords
open Go.RowKit
end Go.Proofs.YtlhlpfnljglhoaaDoorW.PrintWords
namespace Go.Proofs.YtlhlpfnljglhoaaDoorW.Bb
section
variable {ops:Array Oper} {a:Act} {o og:Oper} {g:Nat} {t:Tmp} {u:Bool}
end
end Go.Proofs.YtlhlpfnljglhoaaDoorW.Bb
end
section
namespace Go.Proofs.YtlhlpfnljglhoaaDoorW.PrintWords
open Go.RowKit
namespace Kd
section
variable {α:Type} {d:Kd α} {e base g o n cap:Nat} {ok okp:Nat->Prop} {w W:World} {v:Value} {xs:List α}
end
section
variable {α:Type} {enc:α->Value} {h1:∀ x,(enc x).oneCell'=true} {e base g o n cap:Nat} {ok:Nat->Prop} {W:World} {xs:List α}
end
end Kd
end Go.Proofs.YtlhlpfnljglhoaaDoorW.PrintWords
end
section
namespace Go.Proofs.YtlhlpfnljglhoaaDoorW.PrintWords
open Go.RowKit
namespace Kd
section
variable {α:Type} {d:Kd α} {e base n cap g:Nat} {ok Fi okp:Nat->Prop} {w w1 W:World} {v v1:Value} {xs ys:List α}
theorem IQ{rows news:List (List Value)}(h0:∀k,v.ownBlock=some k->ok k)(hl:rows.length=xs.length)(z:∀(j:Nat) (x:α) (c:List Value),xs[j]?=some x->rows[j]?=some c->FK d W (λk=>ok k∧some k≠v.ownBlock) x c)
    (u:news.length=ys.length)(r:∀(j:Nat) (x:α) (c:List Value),ys[j]?=some x->news[j]?=some c->FK d W okp x c)(m:∀k,okp k->ok k∧some k≠v.ownBlock)(i:∀k,W.heap.size≤k->ok k)
    (hR:(raw d.sz).R e w1 base (λ_=>True) v1 (rows++news))(hg:W.grownBy w1 v.ownBlock)(g:v1.ownBlock=v.ownBlock∨∃b,v1.ownBlock=some b∧W.heap.size≤b):N d e w1 base ok v1 (xs++ys):=by
 have w:∀k,some k≠v.ownBlock->k<W.heap.size->some k≠v1.ownBlock:=by
  intro k a l;rcases g with g|⟨b,q,hle⟩
  ·rw[g];exact a
  rw[q];intro he;injection he with he;omega
 have step:∀{x:α} {c:List Value} {o:Nat->Prop},FK d W o x c->(∀k,o k->ok k∧some k≠v.ownBlock)->FK d w1 (λk=>ok k∧some k≠v1.ownBlock) x c:=by intro x c o A y;exact Gy (Hb (IP A) (λk a l=>hg.block k l (y k a.1).2)) (λk a=>⟨(y k a.1).1,w k (y k a.1).2 a.2⟩)
 refine⟨λk a=>?_,rows++news,by rw[Sc,Sc,hl,u],Ik hR,λj x c p n=>?_⟩
 ·rcases g with g|⟨b,q,hle⟩
  ·exact h0 k (g ▸ a)
  rw[q]at a;injection a with a;exact i k (by omega)
 rcases SG j xs.length with l|t
 ·rw[SB l]at p;rw[SB (by omega)]at n;exact step (z j x c p n) (λ_ a=>a)
 rw[SE t]at p;rw[SE (by omega),hl]at n;exact step (r _ x c p n) m
theorem Pf{x:α}{c:List Value}(h:FK d W ok x c):c=c∧c.length=d.sz∧∀u∈c,u.oneCell'=true:=⟨rfl,d.Ei (FC h),d.D7 (FC h)⟩
theorem Pr{rows:List (List Value)}(hR:(raw d.sz).R e w1 base (λk=>k=W.heap.size) v1 rows)(hg:W.grownBy w1 none)(i:∃b,v1.ownBlock=some b∧W.heap.size≤b)(hl:rows.length=xs.length)(p:∀(j:Nat) (x:α) (c:List Value),xs[j]?=some x->rows[j]?=some c->FK d W okp x c)
    (m:∀k,okp k->ok k)(a:ok W.heap.size):N d e w1 base ok v1 xs:=by obtain⟨b,n,hle⟩:=i;refine⟨λk g=>by rw[hR.1 k g];exact a,rows,hl,Ik hR,λj x c q o=>?_⟩;refine Gy (Hb (IP (p j x c q o)) (λk g l=>hg.block k l (by simp))) (λk g=>⟨m k g.1,λhe=>?_⟩);rw[n]at he;injection he with he;have:=g.2;omega
theorem L9{rows:List (List Value)}{i:Int}{x':α}{r:List Value}(h0:∀k,(Value.slice (some ⟨g,0,none⟩) n cap).ownBlock=some k->ok k)(hl:rows.length=xs.length)(v:∀(j:Nat) (x:α) (c:List Value),xs[j]?=some x->rows[j]?=some c->FK d W (λk=>ok k∧some k≠(Value.slice (some ⟨g,0,none⟩) n cap).ownBlock) x c)
    (hR:(raw d.sz).R e w1 base (λ_=>True) (.slice (some ⟨g,0,none⟩) n cap) (rows.set i.toNat r))(hg:W.grownBy w1 (some g))(u:FK d W okp x' r)(a:∀k,okp k->ok k∧k≠g):N d e w1 base ok (.slice (some ⟨g,0,none⟩) n cap) (xs.set i.toNat x'):=by
 have p:some g=(Value.slice (some ⟨g,0,none⟩) n cap).ownBlock:=by simp[Value.ownBlock]
 refine⟨h0,rows.set i.toNat r,by rw[Si,Si,hl],Ik hR,λj x c l m=>?_⟩;have t:j<xs.length:=by have:=(RL.1 l).1;rwa[Si]at this
 by_cases q:j=i.toNat
 ·subst q;rw[RC t]at l;rw[RC (by omega)]at m;injection l with l;injection m with m;rw[<-l,<-m];exact Gy (Hb u (λk o b=>hg.block k b (λhe=>(a k o).2 (by injection he)))) (λk o=>⟨(a k o).1,λhe=>(a k o).2 (by rw[<-p]at he;injection he)⟩)
 rw[Tm (T_ q)]at l m;exact Hb (v j x c l m) (λk o b=>hg.block k b (by rw[p];exact o.2))
theorem Ql(h:N d e W base ok (.slice (some ⟨g,0,none⟩) n cap) xs)(i:Int)(h0:0≤i)(h1:i<n){c seg:List Value}{j:Nat}(o:c.length=d.sz)(m:∀j u,c[j]?=some u->W.cell? ⟨g,i.toNat*d.sz+j,none⟩=some u)
    (r:j+seg.length≤d.sz){x':α}(l:FK d W okp x' (c.take j++seg++c.drop (j+seg.length)))(a:∀k,okp k->ok k∧k≠g) :
    N d e (W.setCells g (i.toNat*d.sz+j) seg) base ok (.slice (some ⟨g,0,none⟩) n cap) (xs.set i.toNat x')∧W.grownBy (W.setCells g (i.toNat*d.sz+j) seg) (some g):=by obtain⟨b,rows,hl,hR,q⟩:=h;obtain⟨p,h3⟩:=Lv (Ke hR) i h0 h1 (c:=c) (seg:=seg) (j:=j) (x':=c.take j++seg++c.drop (j+seg.length)) (okp:=λ_=>False) o m r ⟨rfl,d.Ei (FC l),d.D7 (FC l)⟩ (λ_ t=>t.elim);exact⟨L9 b hl q p h3 l a,h3⟩
theorem Mt{b:α->List Value->Prop}{sz m:Nat}{A:Option Addr}(h:C0 b sz W A m ys)(hR:∀x c,b x c->c.length=sz∧∀u∈c,u.oneCell'=true) :
    ∃news:List (List Value),news.length=ys.length∧C0 (λx cs=>cs=x∧cs.length=sz∧∀u∈cs,u.oneCell'=true) sz W A m news∧∀(j:Nat) (x:α) (c:List Value),ys[j]?=some x->news[j]?=some c->b x c:=by
 rcases S6 m with h0|o
 ·have t:ys=[]:=Td (h.1.trans h0);subst t;exact⟨[],rfl,⟨h0 ▸ rfl,h.2.1,λo=>by omega⟩,λj x c l=>by simp at l⟩
 obtain⟨ad,rfl,_⟩:=h.2.2 o;obtain⟨inner,q,r⟩:=C0.Lb h;refine⟨chunks sz ys.length inner,C1 _ _ _,⟨by rw[C1];exact h.1,h.2.1,λ_=>⟨ad,rfl,λj p n=>?_⟩⟩,λj x c l d=>?_⟩
 ·have e:j<ys.length:=by have:=(RL.1 n).1;rwa[C1]at this
  have a:=FH n;have g:=hR _ _ (q.2 j _ (RD e));rw[<-a]at g;refine⟨p,g.1,⟨rfl,g⟩,λi u hu=>?_⟩
  have k:inner[j*sz+i]?=some u:=by
   rw[a,Sm]at hu;split at hu
   ·rw[Sq]at hu;exact hu
   cases hu
  exact r _ u k
 rw[FH d];exact q.2 j x l
end
section
variable {P:Program} {ops:Array Oper} {rest:List Oper} {o:Oper} {a:Act} {Q:Exit->Act->World->Prop} {Kc:Act->World->Prop} {α:Type}
theorem MF(d:Kd α){w0 W:World}(base:Nat)(w:o.guard=none)(s x:Operand)(t e:TypeId)(z:Value)(bytes:Nat)
    (L:o.op=.call { callee:=.builtin .append,args:=#[s,x],argTypes:=#[t,t] })
    (O:P.underlying t=some (.slice e))(m:(P.info? e).map (λi=>(i.zero,i.size,i.bytes))=some (some z,d.sz,bytes))(hz:z.cells.size=d.sz)(A:0<d.sz)(u:0<bytes)
    (v:Value)(xs:List α)(p:α)(cs:List Value)(ok okp:Nat->Prop)(hs:a.eval s=v)(T:a.eval x=.slice (some ⟨W.heap.size,0,none⟩) 1 1)(E:FK d W okp p cs)(r:∀k,okp k->ok k∧some k≠v.ownBlock)(g:∀k,W.heap.size≤k->ok k)
    (G:N d e W base ok v xs)(HB:Below base w0 W)(l:base≤W.heap.size)(hl:(xs.length+1)*bytes≤140737488355328)
    (h:∀v1 w1,N d e w1 base ok v1 (xs++[p])->Below base w0 w1->W.grownBy w1 v.ownBlock->(v1.ownBlock=v.ownBlock∨∃b,v1.ownBlock=some b∧W.heap.size≤b)->wpList P ops Q rest (a.put o.dst v1) w1) :
    wpList P ops Q (o::rest) a (W.alloc (.cells cs.toArray e)):=by
 obtain⟨h0,rows,q,hR,J⟩:=G;refine ES (raw d.sz) base w s x t e z bytes L O m hz A u v rows cs cs (λ_=>True) (λ_=>False) hs T (Pf E) (λ_ K=>K.elim) (λ_ _=>trivial) (Ke hR) HB l (by rw[q];exact hl) ?_;intro v1 w1 M I hg n
 exact h v1 w1 (IQ h0 q J (ys:=[p]) (news:=[cs]) rfl (λj y c B D=>by
   rcases j with _|j
   · simp only[List.getElem?_cons_zero,Option.some.injEq]at B D
     rw[<-B,<-D];exact E
   · simp at B) r g M hg n) I hg n
theorem FD(d:Kd α){w0 W:World}(base:Nat)(hw:Region.wanted o (yielded ops a.tmps)=true)(s x:Operand)(t e:TypeId)(z:Value)(bytes:Nat)
    (L:o.op=.call { callee:=.builtin .append,args:=#[s,x],argTypes:=#[t,t] })
    (O:P.underlying t=some (.slice e))(l:(P.info? e).map (λi=>(i.zero,i.size,i.bytes))=some (some z,d.sz,bytes))(hz:z.cells.size=d.sz)(E:0<d.sz)(u:0<bytes)
    (v:Value)(xs ys:List α)(A:Option Addr)(m c:Nat)(ok okp:Nat->Prop)(hs:a.eval s=v)(T:a.eval x=.slice A m c)
    (G:N d e W base ok v xs)(I:F d W okp A m ys)(r:∀k,okp k->ok k∧some k≠v.ownBlock)(g:∀k,W.heap.size≤k->ok k)
    (HB:Below base w0 W)(j:base≤W.heap.size)(hl:(xs.length+m)*bytes≤140737488355328)
    (h:∀v1 w1,N d e w1 base ok v1 (xs++ys)->Below base w0 w1->W.grownBy w1 v.ownBlock->(v1.ownBlock=v.ownBlock∨∃b,v1.ownBlock=some b∧W.heap.size≤b)->Kc (a.put o.dst v1) w1) :
    if Region.wanted o (yielded ops a.tmps)=true then Oper.wp P o a W Kc Q else Kc (a.put o.dst undef) W:=by obtain⟨h0,rows,q,hR,K⟩:=G;obtain⟨news,B,D,w⟩:=Mt (Pk I) (λy c n=>⟨d.Ei (FC n),d.D7 (FC n)⟩);refine Cb (raw d.sz) base hw s x t e z bytes L O l hz E u v rows news A m c (λ_=>True) (λ_=>False) hs T (Ke hR) D (λ_ _ n=>n) (λ_ n=>n.elim) (λ_ _=>trivial) HB j (by rw[q];exact hl) ?_;intro v1 w1 M J hg p;exact h v1 w1 (IQ h0 q K B w r g M hg p) J hg p
theorem KX(d:Kd α){w0 W:World}(base e:Nat)(hw:Region.wanted o (yielded ops a.tmps)=true){N':Tmp}(_hd:o.dst=some N'){xs:List α}{inner:List Value}{ok okp:Nat->Prop}
    (n:(execOp a.eval o).run P W=.ok (.value (.slice (some ⟨W.heap.size,0,none⟩) xs.length xs.length)) (W.alloc (.cells inner.toArray e)))
    (i:Bn (FK d W okp) d.sz xs inner)(q:∀k,okp k->ok k)(g:ok W.heap.size)(HB:Below base w0 W)(l:base≤W.heap.size)(hm:xs.length≤9223372036854775807)
    (h:∀v1 w1,N d e w1 base ok v1 xs->Below base w0 w1->W.grownBy w1 none->(∃b,v1.ownBlock=some b∧W.heap.size≤b)->Kc (a.put o.dst v1) w1) :
    if Region.wanted o (yielded ops a.tmps)=true then Oper.wp P o a W Kc Q else Kc (a.put o.dst undef) W:=by refine DU (raw d.sz) base e hw _hd (xs:=chunks d.sz xs.length inner) (inner:=inner) (ok:=λk=>k=W.heap.size) (okp:=λ_=>False) (by rw[C1];exact n) (KL i (λy c p=>⟨d.Ei (FC p),d.D7 (FC p)⟩)) (λ_ p=>p.elim) rfl HB l (by rw[C1];exact hm) ?_;intro v1 w1 u r hg m;exact h v1 w1 (Pr u hg m (C1 _ _ _) (λj y c v t=>by rw[FH t];exact i.2 j y v) q g) r hg m
end
end Kd
end Go.Proofs.YtlhlpfnljglhoaaDoorW.PrintWords
end
section
namespace Go.Proofs.YtlhlpfnljglhoaaDoorW.Dm
open Go.RowKit Go.Proofs.YtlhlpfnljglhoaaDoorW.PrintWords
namespace Kd
open Go.Proofs.YtlhlpfnljglhoaaDoorW.PrintWords.Kd
end Kd
namespace Kd
open Go.Proofs.YtlhlpfnljglhoaaDoorW.PrintWords.Kd
section
variable {α:Type} {d:Kd α} {e base g N:Nat} {ok:Nat->Prop} {W w1:World} {u v:Value} {xs:List α}
end
end Kd
end Go.Proofs.YtlhlpfnljglhoaaDoorW.Dm
namespace Go.Proofs.YtlhlpfnljglhoaaDoorW.PrintWords
open Go.RowKit
section
variable {P:Program} {ops:Array Oper} {rest:List Oper} {o:Oper} {a:Act} {Q:Exit->Act->World->Prop} {W:World}
theorem BQ{f:FuncId}{b:Array Operand}{c:Array TypeId}(_ho:o.op=.call { callee:=.value (.func f),args:=b,argTypes:=c })(h:wpList P ops Q (o::rest) a W):wpList P ops Q (o::rest) a W:=h
theorem Bo{b:Builtin}{xs:Array Operand}{c:Array TypeId}(_ho:o.op=.call { callee:=.builtin b,args:=xs,argTypes:=c })(h:wpList P ops Q (o::rest) a W):wpList P ops Q (o::rest) a W:=h
end
def mx(a b:Int):Int:=if a<b then b else a
def mn(a b:Int):Int:=if b<a then b else a
theorem Ey(w:World)(n:Nat):w.drewN n=w.drewN n:=rfl
namespace Kd
section
variable {α:Type} {d:Kd α} {e base:Nat} {ok:Nat->Prop} {W w1:World} {v:Value} {xs:List α}
end
section
variable {α:Type} {d:Kd α} {e base g n cap:Nat} {ok oki okp:Nat->Prop} {W:World} {xs:List α} {i:Int} {c:List Value}
theorem MP(l:H d e W base ok (.slice (some ⟨g,0,none⟩) n cap) xs i oki c)(h0:0≤i)(h1:i<n){seg:List Value}{j:Nat}(o:j+seg.length≤d.sz)
    {x':α}(m:d.M W base okp x' (c.take j++seg++c.drop (j+seg.length)))(b:∀k,okp k->oki k) :
    S d e (W.setCells g (i.toNat*d.sz+j) seg) base ok (.slice (some ⟨g,0,none⟩) n cap) (xs.set i.toNat x')∧W.grownBy (W.setCells g (i.toNat*d.sz+j) seg) (some g) :=
  Qo (okg:=λ_=>False) (Po l (λ_ a=>⟨a,λh=>h⟩)) h0 h1 o m (λk a=>.inl (b k a)) (λ_ a=>a.elim)
end
section
variable {α:Type} {d:Kd α} {e base b b' g N:Nat} {ok ok1:Nat->Prop} {W W2 w1:World} {u v:Value} {xs ys:List α} {S:Nat->Prop}
end
end Kd
end Go.Proofs.YtlhlpfnljglhoaaDoorW.PrintWords
namespace Go.Proofs.YtlhlpfnljglhoaaDoorW.PrintWords
open Go.RowKit
namespace Kd
def V{α:Type}(d:Kd α)(_e:Nat)(W:World)(_base:Nat)(ok:Nat->Prop)(v:Value)(xs:List α):Prop:=∃A c,v=.slice A xs.length c∧xs.length≤c∧F d W ok A xs.length xs
section
variable {α β:Type} {d:Kd α} {e base Ew n m c g N' lo hi:Nat} {ok Fi S:Nat->Prop} {w W w1:World} {A:Option Addr} {ad:Addr} {u v v1:Value} {xs:List α}
theorem FF(h:V d e W base ok v xs)(hF:∀A,F d W ok A xs.length xs->F d w1 Fi A xs.length xs):V d e w1 Ew Fi v xs:=by obtain⟨A,c,b,hl,a⟩:=h;exact⟨A,c,b,hl,hF A a⟩
theorem N5(hl:xs.length≤c)(a:F d W ok A xs.length xs):V d e W base ok (.slice A xs.length c) xs:=⟨A,c,rfl,hl,a⟩
theorem Cd(h:V d e W base ok v xs):∃A c,v=.slice A xs.length c:=by obtain⟨A,c,a,_⟩:=h;exact⟨A,c,a⟩
theorem Kv(h:V d e W base ok (.slice A n c) xs):n=xs.length∧n≤c∧F d W ok A xs.length xs:=by obtain⟨A',k,j,hl,i⟩:=h;injection j with b a g;subst b;subst g;exact⟨a,by rw[a];exact hl,i⟩
theorem AY(h:V d e W base ok (.slice A n c) xs):n=xs.length∧n≤c∧d.C W A xs.length xs:=⟨(Kv h).1,(Kv h).2.1,ME (Kv h).2.2⟩
theorem Q3(h:V d e W base ok (.slice A n c) xs):F d W ok A n xs:=by obtain⟨b,_,a⟩:=Kv h;rw[b];exact a
theorem Ip(d:Kd α)(e:Nat)(W:World)(base:Nat)(ok:Nat->Prop):V d e W base ok (.slice none 0 0) []:=⟨none,0,rfl,RB _,Qg d W ok⟩
theorem MH(h:d.R e W base ok v xs):V d e W Ew ok v xs:=by obtain⟨A,c,rfl⟩:=Be h;exact⟨A,c,rfl,(At h).2.1,Rq h⟩
theorem AD(h:V d e W base ok v xs)(a:∀k,ok k->Fi k):V d e W base Fi v xs:=FF h (λ_ b=>Gl b a)
theorem FO(h:V d e W base ok v xs):V d e W base (λk=>ok k∧k<W.heap.size) v xs:=FF h (λ_ a=>JM a)
theorem F8(h:V d e W base ok v xs)(_:Ew≤base):V d e W Ew ok v xs:=h
theorem PC(h:V d e W base ok v xs)(hm:∀k,ok k->k<W.heap.size->w1.heap[k]?=W.heap[k]?):V d e w1 base ok v xs:=FF h (λ_ a=>H_ a hm)
theorem Bh(h:V d e W base ok v xs)(a:Below W.heap.size W w1):V d e w1 base ok v xs:=FF h (λ_ b=>JL b a)
theorem BO(h:V d e W base ok v xs):V d e W.drew base ok v xs:=FF h (λ_ a=>Pg a)
theorem N4(h:V d e W base ok v xs)(m:Nat):V d e (W.drewN m) base ok v xs:=FF h (λ_ a=>NX a m)
theorem JT(h:V d e W base ok v xs){row:Option Nat}(hg:W.grownBy w1 row)(a:∀k,ok k->some k≠row):V d e w1 base ok v xs:=FF h (λ_ b=>NY b hg a)
theorem AA(h:V d e W base ok v xs){p:Addr}(a:∀k,ok k->k≠p.block)(u:Value):V d e (W.setCell p u) base ok v xs:=FF h (λ_ b=>Qe b a u)
theorem MR(h:V d e W base ok v xs)(c:Ah W w1 g none)(a:∀k,ok k->k≠g):V d e w1 base ok v xs:=FF h (λ_ b=>Ph b c a)
theorem PB(h:V d e W base ok v xs)(c:Kept W w1 S)(a:∀k,ok k->¬ S k):V d e w1 base ok v xs:=FF h (λ_ b=>Pj b c a)
theorem Lx(h:V d e W base (λk=>ok k∧some k≠u.ownBlock) v xs)(hg:W.grownBy w1 u.ownBlock)(a:v1.ownBlock=u.ownBlock∨∃b,v1.ownBlock=some b∧W.heap.size≤b):V d e w1 base (λk=>ok k∧some k≠v1.ownBlock) v xs:=FF h (λ_ c=>NW c hg a)
theorem Gp(h:V d e W base (λk=>ok k∧some k≠v.ownBlock) u xs)(hg:W.grownBy w1 v.ownBlock)(a:v1.ownBlock=v.ownBlock∨∃b,v1.ownBlock=some b∧W.heap.size≤b):V d e w1 base (λk=>ok k∧some k≠v1.ownBlock) u xs:=Lx h hg a
theorem DA(h:V d e W base ok v xs)(a:∀k,u.ownBlock=some k->W.heap.size≤k)(b:Below W.heap.size W w1):V d e w1 base (λk=>ok k∧some k≠u.ownBlock) v xs:=FF h (λ_ c=>MC c a b)
theorem CO(h:V d e W base ok v xs)(a:Nat)(b:W.heap.size≤a):V d e W base (λk=>ok k∧k≠a) v xs:=FF h (λ_ c=>MD c a b)
theorem OT(h:V d e W base ok v xs)(a:Below W.heap.size W w1):V d e w1 base (λk=>ok k∧k<W.heap.size) v xs:=FF h (λ_ b=>Qh b a)
theorem JU(h:V d e w1 base (λk=>ok k∧k<N') v xs)(a:∀k,u.ownBlock=some k->N'≤k):V d e w1 base (λk=>(ok k∧some k≠u.ownBlock)∧k<N') v xs:=FF h (λ_ b=>Pm b a)
theorem Pl(h:F d W ok A xs.length xs)(hm:m≤xs.length):F d W ok A (xs.take m).length (xs.take m):=OM h (λ_ a=>GU a hm)
theorem OL(h:F d W ok A xs.length xs)(hm:m≤xs.length)(b:xs.length≤c):F d W ok (if c=m then A else A.map (·.add (m*d.sz))) (xs.drop m).length (xs.drop m):=OM h (λ_ a=>JK a hm b)
theorem Kn(h:V d e W base ok (.slice A n c) xs)(b:∀k,ok k->k≠g):∀a,Ah W a g none->d.C a A n xs:=λa j=>by
  have i:=AY (MR h j b)
  rw[i.1]
  exact i.2.2
theorem FE{M:Nat->Prop}(h:d.R e w1 W.heap.size ok v xs)(hle:w.heap.size≤W.heap.size)(b:∀k,w.heap.size≤k->M k):d.R e w1 W.heap.size (λk=>M k∧ok k) v xs:=Ai (C4 h) (λk a=>⟨b k (RJ hle a.2.1),a.1⟩)
end
end Kd
end Go.Proofs.YtlhlpfnljglhoaaDoorW.PrintWords
end
section
namespace Go.Proofs.YtlhlpfnljglhoaaDoorW.PrintWords
theorem Bn.one{α:Type}{R:α->List Value->Prop}{ps:List α}{cs:List Value}{p:α}{v:Value}(b:R p [v])(h:Bn R 1 ps cs):Bn R 1 (p::ps) (v::cs):=by
 refine⟨by simp[h.1],λj q a=>?_⟩;cases j with
 | zero =>
   simp only[List.getElem?_cons_zero,Option.some.injEq]at a
   subst a
   simpa using b
 | succ j =>
   simp only[List.getElem?_cons_succ]at a
   have h1:=h.2 j q a
   simpa[Nat.mul_one]using h1
theorem Bn.front{α:Type}{R:α->List Value->Prop}{size:Nat}{ps:List α}{cs c all:List Value}{p:α}(e:R p c)(b:c.length=size)(h:Bn R size ps cs)(d:c++cs=all):Bn R size (p::ps) all:=by
 subst d;refine⟨by rw[Sc,b,h.1,TZ,SS,Nat.add_comm],λj q a=>?_⟩;cases j with
 | zero =>
   simp only[List.getElem?_cons_zero,Option.some.injEq]at a
   subst a
   rw[Nat.zero_mul,List.drop_zero,Te (by omega),Tu (by omega)]
   exact e
 | succ j =>
   simp only[List.getElem?_cons_succ]at a
   have h1:=h.2 j q a
   rw[SS,List.drop_append,List.drop_of_length_le (by rw[b];exact Nat.le_add_left _ _),SZ,b,Nat.add_sub_cancel]
   exact h1
theorem Bn.c2{α:Type}{R:α->List Value->Prop}{ps:List α}{cs:List Value}{p:α}{a b:Value}(c:R p [a,b])(h:Bn R 2 ps cs):Bn R 2 (p::ps) (a::b::cs):=Bn.front c rfl h rfl
theorem Bn.c3{α:Type}{R:α->List Value->Prop}{ps:List α}{cs:List Value}{p:α}{a b c:Value}(d:R p [a,b,c])(h:Bn R 3 ps cs):Bn R 3 (p::ps) (a::b::c::cs):=Bn.front d rfl h rfl
theorem Bn.c4{α:Type}{R:α->List Value->Prop}{ps:List α}{cs:List Value}{p:α}{a b c d:Value}(e:R p [a,b,c,d])(h:Bn R 4 ps cs):Bn R 4 (p::ps) (a::b::c::d::cs):=Bn.front e rfl h rfl
theorem Bn.c5{α:Type}{R:α->List Value->Prop}{ps:List α}{cs:List Value}{p:α}{a b c d e:Value}(g:R p [a,b,c,d,e])(h:Bn R 5 ps cs):Bn R 5 (p::ps) (a::b::c::d::e::cs):=Bn.front g rfl h rfl
theorem Bn.c6{α:Type}{R:α->List Value->Prop}{ps:List α}{cs:List Value}{p:α}{a b c d e g:Value}(i:R p [a,b,c,d,e,g])(h:Bn R 6 ps cs):Bn R 6 (p::ps) (a::b::c::d::e::g::cs):=Bn.front i rfl h rfl
theorem Bn.c7{α:Type}{R:α->List Value->Prop}{ps:List α}{cs:List Value}{p:α}{a b c d e g i:Value}(j:R p [a,b,c,d,e,g,i])(h:Bn R 7 ps cs):Bn R 7 (p::ps) (a::b::c::d::e::g::i::cs):=Bn.front j rfl h rfl
theorem Bn.c8{α:Type}{R:α->List Value->Prop}{ps:List α}{cs:List Value}{p:α}{a b c d e g i j:Value}(k:R p [a,b,c,d,e,g,i,j])(h:Bn R 8 ps cs):Bn R 8 (p::ps) (a::b::c::d::e::g::i::j::cs):=Bn.front k rfl h rfl
theorem Bn.c9{α:Type}{R:α->List Value->Prop}{ps:List α}{cs:List Value}{p:α}{a b c d e g i j k:Value}(l:R p [a,b,c,d,e,g,i,j,k])(h:Bn R 9 ps cs):Bn R 9 (p::ps) (a::b::c::d::e::g::i::j::k::cs):=Bn.front l rfl h rfl
theorem Bn.DM{α:Type}{R:α->List Value->Prop}{ps:List α}{cs:List Value}{p:α}{a b c d e g i j k l:Value}(m:R p [a,b,c,d,e,g,i,j,k,l])(h:Bn R 10 ps cs):Bn R 10 (p::ps) (a::b::c::d::e::g::i::j::k::l::cs):=Bn.front m rfl h rfl
end Go.Proofs.YtlhlpfnljglhoaaDoorW.PrintWords
end
section
namespace Go.Proofs.YtlhlpfnljglhoaaDoor
open Go.RowKit
end Go.Proofs.YtlhlpfnljglhoaaDoor
end
