/- Joined by a program (wip/shake.py): the declarations that 'YtdpklbomhdpimaaDoorCardFnExactServerHear' reaches. -/
import Derived.Lib.LaidTab
import Derived.WalkKit
import Derived.Deep.Draws
import Derived.KernelRfl
import Derived.Below
import Derived.Deep.AppendLies
import Derived.Maps.AppendAt
import Derived.OwnWalk
import Derived.Laws.BytesArg
import Derived.Laws.MakeOwn
import Derived.Laws.OwnMore
import Derived.Deep.OwnRows
import Derived.Tactics
import Derived.Lib.ConvBytes
import Derived.Laws.Slices
import Derived.RowKit3
import Derived.Deep.LoopGhost
import Derived.Deep.QuietTactic
import Derived.BigQuiet
import Derived.WideLaws
import Derived.Deep.DeepCutAuto
import Derived.Deep.CutBlock
import Derived.Deep.RegionHeld3
import Derived.Laws.Rows
import Derived.Lib.AppendStr
import Derived.ArgAppend
import Derived.Laws.IdiomCopy
import Derived.OrdersHeld
import Derived.Laws.BitsLemmas
import Derived.RowKit
import Derived.WalkSpells
import Derived.Deep.CutRange
import Derived.Lib.Hide
import Derived.Maps.OwnOps
import Derived.Maps.OwnSet
import Derived.Outline
import Derived.LoopTactic
import Derived.LaidMore
import Derived.LaidLaws
import Derived.ProofKit
import Derived.ChangeVars
import Derived.RegionTactic
import Derived.LaidEqlPtr
import Derived.RangeFuncFrom
import Derived.RangeFuncNested
import Derived.RangeFuncBound
import Derived.RangeFuncCalls
import Derived.RangeFuncLeaves
import Derived.Shelf.Abstract
import Derived.Shelf.RegionOpen
import Derived.OwnWalkIn
import Derived.TacticsInMore
import Derived.LoopNIn
import Derived.LoopIn
import Derived.RangeFuncWrites
import Derived.Deep.Slices
import Derived.Lib.SmallJoins
import Derived.ChangeSame
import Derived.OpenShut
import Derived.ShutString
import Derived.ChangeOld
import Derived.SizedLaws
import Derived.SevenTiedAt
import Derived.Test.YtdpklbomhdpimaaDoorCards
import Derived.Test.YtdpklbomhdpimaaDoorRows
import Derived.Test.YtdpklbomhdpimaaDoorTie
import Derived.Test.YtdpklbomhdpimaaDoorZLmV
set_option linter.unusedVariables false
set_option linter.unusedSimpArgs false
set_option linter.unusedSectionVars false
set_option maxHeartbeats 8000000
set_option maxRecDepth 100000
namespace Go.Proofs.YtdpklbomhdpimaaDoor.P
open Go.RowKit Go.Proofs.YtdpklbomhdpimaaDoorW.PrintWords Go.Proofs.YtdpklbomhdpimaaDoorW.PrintLast Go.Proofs.YtdpklbomhdpimaaDoorW.PrintMore
theorem a_ {p:Prop} (h:p):Aside0 p:=⟨h⟩
theorem dt_ {p:Prop} [Decidable p] (h:p):decide p=true:=decide_eq_true h
theorem df_ {p:Prop} [Decidable p] (h:¬ p):decide p=false:=decide_eq_false h
theorem bs_ {α β:Type} {o:Option α} {f:α→Option β} {b:β} (h:o.bind f=some b):∃ a,o=some a∧f a=some b:=Option.bind_eq_some_iff.mp h
theorem sj_ {α:Type} {a b:α} (h:some a=some b):a=b:=Option.some.inj h
theorem bl_ (w:World) (a:Addr) {v:Value} (h:w.cell? a=some v):a.block < w.heap.size:=World.block_lt_of_cell? w a h
theorem bn_ {α:Type} [BEq α] [LawfulBEq α] {a b:α} (h:a≠b):(a==b)=false:=beq_eq_false_iff_ne.mpr h
theorem be_ {α:Type} [BEq α] [LawfulBEq α] {a b:α} (h:a=b):(a != b)=false:=bne_eq_false_iff_eq.mpr h
theorem bel_ {p:Prop} (h:p:=by repeat (first|(with_reducible first|exact HB.out|apply wA_|apply pw_below_drewN|apply below_drew1|refine wS_ ?_ (Aside0.out (by assumption)))|exact HB.out)):p:=h
theorem bp_ {p q:Prop} (h:p) (f:p→q:=by intro h_;(with_reducible repeat (first|refine bN_ ?_ _|refine bD_ ?_|refine bA_ ?_ _));exact h_):q:=f h
theorem rp_ {p q:Prop} (h:p) (f:p→q:=by intro h_;(with_reducible repeat (first|apply Kd.R_alloc|apply Kd.R_drewN|apply Kd.R_drew));exact h_):q:=f h
theorem ar_ {p:Prop} (h:p:=by (try simp only [List.map_toArray,List.map_cons,List.map_nil]);first|done|rfl|(simp only [List.length_drop,List.length_take];rfl)):p:=h
theorem fi_ {p:Prop} (h:p:=by first|rfl|(simp [errW_none,errW_some] <;> rfl)|(simp [*,errW_none,errW_some] <;> rfl)):p:=h
theorem cp_ {p q:Prop} (h:p) (f:p→q:=by intro h_;repeat (first|exact (Kd.C_below h_ HB.out)|(with_reducible refine Kd.C_alloc ?_ _)|(with_reducible refine Kd.C_drewN ?_ _)|(with_reducible refine Kd.C_drew ?_))):q:=f h
theorem ke_ {p:Prop} (h:p:=by repeat (first|(with_reducible first|exact HK.out|apply KeepBut.set_|apply keep_drewN|apply keep_drew|apply keep_alloc)|exact HK.out)):p:=h
theorem kf_ {w w1 W:World} {g:Nat} {row:Option Nat} (h0:KeepBut w w1 g row) (h:KeepBut w W g row:=by repeat (first|(with_reducible first|exact HK.out|apply KeepBut.set_|apply keep_drewN|apply keep_drew|apply keep_alloc|refine keep_far ?_ (Aside0.out (by assumption)) _)|exact HK.out)):KeepBut w W g row:=h
theorem qp_ {p q:Prop} (h:p) (f:p→q:=by intro h_;(with_reducible repeat (first|apply Kd.Q_alloc|apply Kd.Q_drewN|apply Kd.Q_drew));exact h_):q:=f h
theorem cz_ {W:World} {g:Nat} {t:TypeId} {cs:Array Value} (h:W.heap[g]?=some (.cells cs t (0,0))) (i:Nat) (v:Value) (hv:cs[i]?=some v:=by exact rfl):W.cell? ⟨g,i,none⟩=some v:=(bC_ h i).trans hv
theorem kb_ {w w1 W0:World} {g g':Nat} {o:Obj} (hk:KeepBut w w1 g none) (h0:W0.heap[g']?=some o) (hn:g'≠g) (f:W0.heap[g']?=some o→w.heap[g']?=some o:=by intro h_;(with_reducible repeat (first|refine bN_ ?_ _|refine bD_ ?_|refine bA_ ?_ _));exact h_):w1.heap[g']?=some o:=hk.blk (f h0) hn (by simp)
theorem bb_ {w w1 W0:World} {g:Nat} {o:Obj} (h0:W0.heap[g]?=some o) (hb:Below w.heap.size w w1) (f:W0.heap[g]?=some o→w.heap[g]?=some o:=by intro h_;(with_reducible repeat (first|refine bN_ ?_ _|refine bD_ ?_|refine bA_ ?_ _));exact h_):w1.heap[g]?=some o:=blk_below (f h0) hb
theorem bx_ {P:Program} {ops:Array Oper} {Q:Exit→Act→World→Prop} {rest:List Oper} {o:Oper} {a:Act} {W:World} (N:Tmp) (cs:Array Value) (t:TypeId)
    (h:∀ g,g=W.heap.size→∀ w1,w1.heap[g]?=some (.cells cs t (0,0))→Below W.heap.size W w1→wpList P ops Q rest (a.put o.dst (.pointer (some ⟨g,0,none⟩))) w1) (hd:o.dst=some N:=by exact rfl) (hg:o.guard=none:=by exact rfl)
    (hr:(execOp a.eval o).run P W=.ok (.value (.pointer (some ⟨W.heap.size,0,none⟩))) (W.alloc (.cells cs t (0,0))):=by first|(go_simp;done)|(go_simp;rfl)):wpList P ops Q (o::rest) a W:=box_event hg hd hr h
theorem cx_ {p q:Prop} (h:p) (f:p→q:=by intro h_;repeat (first|exact h_|(with_reducible refine Kd.C_alloc ?_ _)|(with_reducible refine Kd.C_drewN ?_ _)|(with_reducible refine Kd.C_drew ?_))):q:=f h
theorem hg_ {p:Prop} (h:p:=by repeat (first|(with_reducible first|exact HG.out|apply Glob.drewN|apply Glob.drew)|exact HG.out)):p:=h
theorem od_ {p:Prop} [d:Decidable p] (h:decide p=true:=by first|(with_reducible assumption)|assumption):p:=of_decide_eq_true h
theorem si_ {p:Prop} (h:p:=by first|rfl|(simp;done)|(simp [*];done)):p:=h
theorem cb_ {w w':World} {p:Addr} {v:Value} (hb:Below w.heap.size w w') (h:w.cell? p=some v):w'.cell? p=some v:=(hb.cell (bl_ w _ h)).trans h
theorem gl_ {P:Program} {ops:Array Oper} {Q:Exit→Act→World→Prop} {rest:List Oper} {oi:Oper} {a:Act} {w:World} (n:Tmp) {f:FuncId} {fn:Func} (hf:P.funcs[f]?=some fn) (args:Array Value) {as_:Array Operand} {ts:Array TypeId}
    (h:Calls P f args w fun e w'=>∃ v,e=.returned v∧wpList P ops Q rest (a.put (some n) v) w') (hd:oi.dst=some n:=by exact rfl) (hg:oi.guard=none:=by exact rfl)
    (hname:(fn.name == "runtime.NumGoroutine")=false:=by kernel_rfl) (hb:fn.body.isSome=true:=by exact rfl) (hop:oi.op=.call { callee:=.value (.func f),args:=as_,argTypes:=ts }:=by exact rfl)
    (hargs:as_.map a.eval=args:=by (try simp only [List.map_toArray,List.map_cons,List.map_nil]);first|done|rfl|(simp only [List.length_drop,List.length_take];rfl)):wpList P ops Q (oi::rest) a w:=goesL_ (some n) hd hg hf hname hb args hop hargs h
theorem pa_ {P:Program} {md:Region.Mode} {ops:Array Oper} {Q:Exit→Act→World→Prop} {S:World→Prop} {ds:List Nat} (i:Nat) (n:Tmp) {oi:Oper} {v:Value} {fuel:Nat} {l:Array Bool} {a:Act} {w:World} {a':Act}
    (h:wpAnyLast P md ops Q S ds fuel (l.setIfInBounds i true) a' w) (hi:ops[i]?=some oi:=by exact rfl) (hN:oi.dst=some n:=by exact rfl) (hc:anyB md ops l (l.setIfInBounds i true) i=true:=by exact any_of HT_.out (by kernel_rfl))
    (hQ:∀ c a w,Q (.panic c) (a.put oi.dst v) w→Q (.panic c) a w:=by exact fun _ _ _ h=>h) (hy:Yields P ops oi v a:=by exact Or.inl ⟨by rfl,by intro w';go_simp;with_reducible rfl⟩)
    (ha:a.put (some n) v=a':=by simp only [Act.put,List.setIfInBounds_toArray,List.set_cons_zero,List.set_cons_succ,i64_w,i32_w];rfl):wpAnyLast P md ops Q S ds (fuel+1) l a w:=pure_ _ hi hN hc hQ hy ha h
theorem po_ {P:Program} {md:Region.Mode} {ops:Array Oper} {Q:Exit→Act→World→Prop} {S:World→Prop} {ds:List Nat} (i:Nat) (n:Tmp) {oi:Oper} {fuel:Nat} {l:Array Bool} {a:Act} {w:World} {a':Act}
    (h:wpAnyLast P md ops Q S ds fuel (l.setIfInBounds i true) a' w) (hi:ops[i]?=some oi:=by exact rfl) (hN:oi.dst=some n:=by exact rfl) (hc:anyB md ops l (l.setIfInBounds i true) i=true:=by exact any_of HT_.out (by kernel_rfl))
    (hQ:∀ c a w,Q (.panic c) (a.put oi.dst undef) w→Q (.panic c) a w:=by exact fun _ _ _ h=>h) (hy:Yields P ops oi undef a:=by exact Or.inr ⟨by rfl,rfl⟩)
    (ha:a.put (some n) undef=a':=by simp only [Act.put,List.setIfInBounds_toArray,List.set_cons_zero,List.set_cons_succ,i64_w,i32_w];rfl):wpAnyLast P md ops Q S ds (fuel+1) l a w:=pure_ _ hi hN hc hQ hy ha h
theorem on_ {P:Program} {md:Region.Mode} {ops:Array Oper} {Q:Exit→Act→World→Prop} {S:World→Prop} {ds:List Nat} (i:Nat) (n:Tmp) {oi:Oper} {fuel:Nat} {l:Array Bool} {a:Act} {w:World}
    (h:∀ K:Act→World→Prop,Shut (∀ a' w',S w'→(S w'→wpAnyLast P md ops Q S ds fuel (l.setIfInBounds i true) a' w')→K a' w')→if Region.wanted oi (yielded ops a.tmps)=true then Oper.wp P oi a w K Q else K (a.put (some n) undef) w)
    (hi:ops[i]?=some oi:=by exact rfl) (hN:oi.dst=some n:=by exact rfl) (hc:readyB md ops l (l.setIfInBounds i true) i=true:=by exact one_of HT_.out (by kernel_rfl)) (hd:i∉ds:=by decide):wpAnyLast P md ops Q S ds (fuel+1) l a w:=one_ _ hi hN hc hd h
theorem no_ (n:Tmp) {P:Program} {md:Region.Mode} {ops:Array Oper} {Q:Exit→Act→World→Prop} {S:World→Prop} {ds:List Nat} {fuel:Nat} {l:Array Bool} {a a':Act} {v:Value} {w:World} (h:wpAnyLast P md ops Q S ds fuel l a' w)
    (ha:a.put (some n) v=a':=by simp only [Act.put,List.setIfInBounds_toArray,List.set_cons_zero,List.set_cons_succ,i64_w,i32_w];rfl):wpAnyLast P md ops Q S ds fuel l (a.put (some n) v) w:=norm_ ha h
theorem ta7_ {P:Program} {md:Region.Mode} {ops:Array Oper} {Q:Exit→Act→World→Prop} {S:World→Prop} {ds:List Nat} (i:Nat) (n:Tmp) {oi:Oper} {v:Value} {fuel:Nat} {l:Array Bool} {a:Act} {w:World} {a':Act} (hS:S w)
    (h:wpAnyLast P md ops Q S ds fuel (l.setIfInBounds i true) a' w) (hi:ops[i]?=some oi:=by exact rfl) (hN:oi.dst=some n:=by exact rfl) (hc:takeB md ops ds l (l.setIfInBounds i true) i=true:=by exact take_ofW HT_.out HW_.out (by kernel_rfl))
    (hQ:∀ c a w,Q (.panic c) (a.put oi.dst v) w→Q (.panic c) a w:=by exact fun _ _ _ h=>h) (hy:YieldsIf P ops S oi v a:=by exact Or.inl ⟨by rfl,by rintro w' ⟨s0,s1,s2,s3,s4,s5,s6⟩;go_simp;with_reducible rfl⟩)
    (ha:a.put (some n) v=a':=by simp only [Act.put,List.setIfInBounds_toArray,List.set_cons_zero,List.set_cons_succ,i64_w,i32_w];rfl):wpAnyLast P md ops Q S ds (fuel+1) l a w:=take_ _ hi hN hc hQ hy hS ha h
theorem ta10_ {P:Program} {md:Region.Mode} {ops:Array Oper} {Q:Exit→Act→World→Prop} {S:World→Prop} {ds:List Nat} (i:Nat) (n:Tmp) {oi:Oper} {v:Value} {fuel:Nat} {l:Array Bool} {a:Act} {w:World} {a':Act} (hS:S w)
    (h:wpAnyLast P md ops Q S ds fuel (l.setIfInBounds i true) a' w) (hi:ops[i]?=some oi:=by exact rfl) (hN:oi.dst=some n:=by exact rfl) (hc:takeB md ops ds l (l.setIfInBounds i true) i=true:=by exact take_ofW HT_.out HW_.out (by kernel_rfl))
    (hQ:∀ c a w,Q (.panic c) (a.put oi.dst v) w→Q (.panic c) a w:=by exact fun _ _ _ h=>h) (hy:YieldsIf P ops S oi v a:=by exact Or.inl ⟨by rfl,by rintro w' ⟨s0,s1,s2,s3,s4,s5,s6,s7,s8,s9⟩;go_simp;with_reducible rfl⟩)
    (ha:a.put (some n) v=a':=by simp only [Act.put,List.setIfInBounds_toArray,List.set_cons_zero,List.set_cons_succ,i64_w,i32_w];rfl):wpAnyLast P md ops Q S ds (fuel+1) l a w:=take_ _ hi hN hc hQ hy hS ha h
theorem ta14_ {P:Program} {md:Region.Mode} {ops:Array Oper} {Q:Exit→Act→World→Prop} {S:World→Prop} {ds:List Nat} (i:Nat) (n:Tmp) {oi:Oper} {v:Value} {fuel:Nat} {l:Array Bool} {a:Act} {w:World} {a':Act} (hS:S w)
    (h:wpAnyLast P md ops Q S ds fuel (l.setIfInBounds i true) a' w) (hi:ops[i]?=some oi:=by exact rfl) (hN:oi.dst=some n:=by exact rfl) (hc:takeB md ops ds l (l.setIfInBounds i true) i=true:=by exact take_ofW HT_.out HW_.out (by kernel_rfl))
    (hQ:∀ c a w,Q (.panic c) (a.put oi.dst v) w→Q (.panic c) a w:=by exact fun _ _ _ h=>h) (hy:YieldsIf P ops S oi v a:=by exact Or.inl ⟨by rfl,by rintro w' ⟨s0,s1,s2,s3,s4,s5,s6,s7,s8,s9,s10,s11,s12,s13⟩;go_simp;with_reducible rfl⟩)
    (ha:a.put (some n) v=a':=by simp only [Act.put,List.setIfInBounds_toArray,List.set_cons_zero,List.set_cons_succ,i64_w,i32_w];rfl):wpAnyLast P md ops Q S ds (fuel+1) l a w:=take_ _ hi hN hc hQ hy hS ha h
theorem ta21_ {P:Program} {md:Region.Mode} {ops:Array Oper} {Q:Exit→Act→World→Prop} {S:World→Prop} {ds:List Nat} (i:Nat) (n:Tmp) {oi:Oper} {v:Value} {fuel:Nat} {l:Array Bool} {a:Act} {w:World} {a':Act} (hS:S w)
    (h:wpAnyLast P md ops Q S ds fuel (l.setIfInBounds i true) a' w) (hi:ops[i]?=some oi:=by exact rfl) (hN:oi.dst=some n:=by exact rfl) (hc:takeB md ops ds l (l.setIfInBounds i true) i=true:=by exact take_ofW HT_.out HW_.out (by kernel_rfl))
    (hQ:∀ c a w,Q (.panic c) (a.put oi.dst v) w→Q (.panic c) a w:=by exact fun _ _ _ h=>h) (hy:YieldsIf P ops S oi v a:=by exact Or.inl ⟨by rfl,by rintro w' ⟨s0,s1,s2,s3,s4,s5,s6,s7,s8,s9,s10,s11,s12,s13,s14,s15,s16,s17,s18,s19,s20⟩;go_simp;with_reducible rfl⟩)
    (ha:a.put (some n) v=a':=by simp only [Act.put,List.setIfInBounds_toArray,List.set_cons_zero,List.set_cons_succ,i64_w,i32_w];rfl):wpAnyLast P md ops Q S ds (fuel+1) l a w:=take_ _ hi hN hc hQ hy hS ha h
end Go.Proofs.YtdpklbomhdpimaaDoor.P
namespace Go.Proofs.YtdpklbomhdpimaaDoor.P
open Go.RowKit
def owners:List Int:=[0,1,1,1,0,0,0,0,0,0,0,2,2,2,2,2,2,0,0,0,0,3,3,3,3,3,3,0,0,0,0,4,4,4,4,4,4]
def Glob (w:World):Prop:=Lib.TabIs Tryd.prog w "loop.example/plashet/impl.rowOwners" .i64 owners
theorem gOwners:Tryd.prog.globalNamed "loop.example/plashet/impl.rowOwners" = some 0:=by kernel_rfl
theorem Glob.var {w:World} (h:Glob w):w.var? Tryd.prog "loop.example/plashet/impl.rowOwners" = some (owners.map fun z=>Value.int .i64 z).toArray:=h
theorem Glob.lt {w:World} (h:Glob w):0 < w.heap.size:=by
 have h:=h.var
 unfold World.var? at h
 simp only [gOwners,Option.bind_some] at h
 rcases Nat.lt_or_ge 0 w.heap.size with hl|hl
 ·exact hl
 ·rw [Array.getElem?_eq_none hl] at h
  cases h
theorem Glob.below {w w':World} (h:Glob w) (hb:Below w.heap.size w w'):Glob w':=by
 have hl:=h.lt
 have h:=h.var
 unfold Glob Lib.TabIs World.var? at *
 simp only [gOwners,Option.bind_some] at h ⊢
 rw [hb.block _ hl]
 exact h
theorem Glob.drew {w:World} (h:Glob w):Glob w.drew:=by
 have h:=h.var
 unfold Glob Lib.TabIs World.var? at *
 exact h
theorem Glob.drewN {w:World} (h:Glob w) (n:Nat):Glob (w.drewN n):=by
 induction n generalizing w with
 | zero=>exact h
 | succ n ih=>rw [←World.drew_drewN];exact ih h.drew
theorem Glob.cell {w:World} (h:Glob w) (i:Nat) (hi:i < 37):w.cell? ⟨0,i,none⟩=some (.int .i64 (owners.getD i 0)):=by
 have hc:=World.var?_cell gOwners h.var i
 rw [hc]
 have hl:i < owners.length:=hi
 simp [List.getD_eq_getElem?_getD,List.getElem?_eq_getElem hl]
def ownI (id:Int):Int:=if 0≤id∧id < 37 then owners.getD id.toNat 0 else 0
theorem Glob.at_ {w:World} (h:Glob w) (i:Int) (h0:0≤i) (h1:i < 37):w.cell? ⟨0,i.toNat,none⟩=some (.int .i64 (ownI i)):=by
 have:=h.cell i.toNat (by omega)
 rw [ownI,if_pos ⟨h0,h1⟩]
 exact this
theorem owners_range:∀ z∈owners,0≤z∧z≤4:=by decide
theorem ownI_range (i:Int):0≤ownI i∧ownI i≤4:=by
 unfold ownI
 split
 ·rename_i h
  have hl:i.toNat < owners.length:=by have:owners.length=37:=rfl;omega
  rw [List.getD_eq_getElem?_getD,List.getElem?_eq_getElem hl]
  exact owners_range _ (List.getElem_mem hl)
 ·omega
end Go.Proofs.YtdpklbomhdpimaaDoor.P
namespace Go.Proofs.YtdpklbomhdpimaaDoor.P
open Go.RowKit Go.Proofs.YtdpklbomhdpimaaDoorW.PrintWords Go.Proofs.YtdpklbomhdpimaaDoorW.PrintLast
def errW:Option Int→Value
 | none=>.nilIface
 | some c=>.iface 0 (.int .i64 c)
theorem errW_none:errW none=.nilIface:=rfl
theorem errW_some (c:Int):errW (some c)=.iface 0 (.int .i64 c):=rfl

theorem info44:(Tryd.prog.info? 44).map (fun i=>(i.zero,i.size,i.bytes))=some (some (.agg #[(.int .i64 0),(.int .i64 0),(.int .i64 0),(.int .i64 0),(.int .i64 0),(.int .i64 0),(.string ⟨#[]⟩)]),7,64):=by kernel_rfl
structure S42 where
 f0:Int
 f1:Int
 f2:Int
 f3:Int
 f4:ByteArray
def z42:S42:=⟨(0:Int),(0:Int),(0:Int),(0:Int),(⟨#[]⟩:ByteArray)⟩
def k42:Kd S42:=Kd.iso (Kd.pair (Kd.int .i64) (Kd.pair (Kd.int .i64) (Kd.pair (Kd.int .i64) (Kd.pair (Kd.int .i64) Kd.string)))) (fun x:S42=>(x.f0,x.f1,x.f2,x.f3,x.f4))
theorem k42_open {w:World} {x:S42} {cs:List Value} (h:k42.K w x cs):cs=[.int .i64 x.f0,.int .i64 x.f1,.int .i64 x.f2,.int .i64 x.f3,.string x.f4]:=by
 obtain ⟨_,_,rfl,rfl,⟨_,_,rfl,rfl,⟨_,_,rfl,rfl,⟨_,_,rfl,rfl,rfl⟩⟩⟩⟩:=h
 exact rfl
theorem k42_openM {w:World} {base:Nat} {ok:Nat→Prop} {x:S42} {cs:List Value} (h:k42.M w base ok x cs):cs=[.int .i64 x.f0,.int .i64 x.f1,.int .i64 x.f2,.int .i64 x.f3,.string x.f4]:=by
 obtain ⟨_,_,rfl,rfl,⟨_,_,rfl,rfl,⟨_,_,rfl,rfl,⟨_,_,rfl,rfl,rfl⟩⟩⟩⟩:=h
 exact rfl
theorem k42_mkM (w:World) (base:Nat) (ok:Nat→Prop) (x:S42)  : k42.M w base ok x [.int .i64 x.f0,.int .i64 x.f1,.int .i64 x.f2,.int .i64 x.f3,.string x.f4]:=⟨[.int .i64 x.f0],[.int .i64 x.f1,.int .i64 x.f2,.int .i64 x.f3,.string x.f4],rfl,rfl,⟨[.int .i64 x.f1],[.int .i64 x.f2,.int .i64 x.f3,.string x.f4],rfl,rfl,⟨[.int .i64 x.f2],[.int .i64 x.f3,.string x.f4],rfl,rfl,⟨[.int .i64 x.f3],[.string x.f4],rfl,rfl,rfl⟩⟩⟩⟩
structure S44 where
 f0:Int
 f1:Int
 f2:S42
def z44:S44:=⟨(0:Int),(0:Int),z42⟩
def k44:Kd S44:=Kd.iso (Kd.pair (Kd.int .i64) (Kd.pair (Kd.int .i64) k42)) (fun x:S44=>(x.f0,x.f1,x.f2))
theorem k44_open {w:World} {x:S44} {cs:List Value} (h:k44.K w x cs):cs=[.int .i64 x.f0,.int .i64 x.f1,.int .i64 x.f2.f0,.int .i64 x.f2.f1,.int .i64 x.f2.f2,.int .i64 x.f2.f3,.string x.f2.f4]:=by
 obtain ⟨_,_,rfl,rfl,⟨_,_,rfl,rfl,s2⟩⟩:=h
 obtain rfl:=k42_open s2
 exact rfl
theorem k44_openM {w:World} {base:Nat} {ok:Nat→Prop} {x:S44} {cs:List Value} (h:k44.M w base ok x cs):cs=[.int .i64 x.f0,.int .i64 x.f1,.int .i64 x.f2.f0,.int .i64 x.f2.f1,.int .i64 x.f2.f2,.int .i64 x.f2.f3,.string x.f2.f4]:=by
 obtain ⟨_,_,rfl,rfl,⟨_,_,rfl,rfl,s2⟩⟩:=h
 obtain rfl:=k42_openM s2
 exact rfl
theorem k44_mkM (w:World) (base:Nat) (ok:Nat→Prop) (x:S44)  : k44.M w base ok x [.int .i64 x.f0,.int .i64 x.f1,.int .i64 x.f2.f0,.int .i64 x.f2.f1,.int .i64 x.f2.f2,.int .i64 x.f2.f3,.string x.f2.f4]:=⟨[.int .i64 x.f0],[.int .i64 x.f1,.int .i64 x.f2.f0,.int .i64 x.f2.f1,.int .i64 x.f2.f2,.int .i64 x.f2.f3,.string x.f2.f4],rfl,rfl,⟨[.int .i64 x.f1],[.int .i64 x.f2.f0,.int .i64 x.f2.f1,.int .i64 x.f2.f2,.int .i64 x.f2.f3,.string x.f2.f4],rfl,rfl,(k42_mkM w base ok x.f2 )⟩⟩
def rd_T44 (xs:List S44) (i:Int):S44:=xs.getD i.toNat z44
theorem at_T44 {w:World} {A:Option Addr} {n:Nat} {xs:List S44} (h:Kd.C k44 w A n xs) (i:Int) (h0:0≤i) (h1:i < n):∃ ad ,A=some ad∧w.cell? (ad.add (i.toNat * 7))=some (.int .i64 (rd_T44 xs i).f0)∧w.cell? ⟨(ad.add (i.toNat * 7)).block,(ad.add (i.toNat * 7)).off+1,none⟩=some (.int .i64 (rd_T44 xs i).f1)∧w.cell? ⟨(ad.add (i.toNat * 7)).block,(ad.add (i.toNat * 7)).off+2,none⟩=some (.int .i64 (rd_T44 xs i).f2.f0)∧w.cell? ⟨(ad.add (i.toNat * 7)).block,(ad.add (i.toNat * 7)).off+3,none⟩=some (.int .i64 (rd_T44 xs i).f2.f1)∧w.cell? ⟨(ad.add (i.toNat * 7)).block,(ad.add (i.toNat * 7)).off+4,none⟩=some (.int .i64 (rd_T44 xs i).f2.f2)∧w.cell? ⟨(ad.add (i.toNat * 7)).block,(ad.add (i.toNat * 7)).off+5,none⟩=some (.int .i64 (rd_T44 xs i).f2.f3)∧w.cell? ⟨(ad.add (i.toNat * 7)).block,(ad.add (i.toNat * 7)).off+6,none⟩=some (.string (rd_T44 xs i).f2.f4):=by
 obtain ⟨ad,c,e,_,hK,hc0⟩:=Kd.C_get h z44 i h0 h1
 have hc:∀ j u,c[j]?=some u→w.cell? (ad.add (i.toNat * 7+j))=some u:=hc0
 obtain rfl:=k44_open hK
 exact ⟨ad,e,hc 0 _ rfl,by rw [←add_field _ _ 1 (by omega)];exact hc 1 _ rfl,by rw [←add_field _ _ 2 (by omega)];exact hc 2 _ rfl,by rw [←add_field _ _ 3 (by omega)];exact hc 3 _ rfl,by rw [←add_field _ _ 4 (by omega)];exact hc 4 _ rfl,by rw [←add_field _ _ 5 (by omega)];exact hc 5 _ rfl,by rw [←add_field _ _ 6 (by omega)];exact hc 6 _ rfl⟩

structure S34 where
 f0:Int
 f1:Int
 f2:Int
 f3:Int
 f4:ByteArray
def z34:S34:=⟨(0:Int),(0:Int),(0:Int),(0:Int),(⟨#[]⟩:ByteArray)⟩
def k34:Kd S34:=Kd.iso (Kd.pair (Kd.int .i64) (Kd.pair (Kd.int .i64) (Kd.pair (Kd.int .i64) (Kd.pair (Kd.int .i64) Kd.string)))) (fun x:S34=>(x.f0,x.f1,x.f2,x.f3,x.f4))
theorem k34_open {w:World} {x:S34} {cs:List Value} (h:k34.K w x cs):cs=[.int .i64 x.f0,.int .i64 x.f1,.int .i64 x.f2,.int .i64 x.f3,.string x.f4]:=by
 obtain ⟨_,_,rfl,rfl,⟨_,_,rfl,rfl,⟨_,_,rfl,rfl,⟨_,_,rfl,rfl,rfl⟩⟩⟩⟩:=h
 exact rfl
theorem k34_mk (w:World) (x:S34)  : k34.K w x [.int .i64 x.f0,.int .i64 x.f1,.int .i64 x.f2,.int .i64 x.f3,.string x.f4]:=⟨[.int .i64 x.f0],[.int .i64 x.f1,.int .i64 x.f2,.int .i64 x.f3,.string x.f4],rfl,rfl,⟨[.int .i64 x.f1],[.int .i64 x.f2,.int .i64 x.f3,.string x.f4],rfl,rfl,⟨[.int .i64 x.f2],[.int .i64 x.f3,.string x.f4],rfl,rfl,⟨[.int .i64 x.f3],[.string x.f4],rfl,rfl,rfl⟩⟩⟩⟩
structure S36 where
 f0:Int
 f1:Int
 f2:S34
def z36:S36:=⟨(0:Int),(0:Int),z34⟩
def k36:Kd S36:=Kd.iso (Kd.pair (Kd.int .i64) (Kd.pair (Kd.int .i64) k34)) (fun x:S36=>(x.f0,x.f1,x.f2))
theorem k36_open {w:World} {x:S36} {cs:List Value} (h:k36.K w x cs):cs=[.int .i64 x.f0,.int .i64 x.f1,.int .i64 x.f2.f0,.int .i64 x.f2.f1,.int .i64 x.f2.f2,.int .i64 x.f2.f3,.string x.f2.f4]:=by
 obtain ⟨_,_,rfl,rfl,⟨_,_,rfl,rfl,s2⟩⟩:=h
 obtain rfl:=k34_open s2
 exact rfl
theorem k36_mk (w:World) (x:S36)  : k36.K w x [.int .i64 x.f0,.int .i64 x.f1,.int .i64 x.f2.f0,.int .i64 x.f2.f1,.int .i64 x.f2.f2,.int .i64 x.f2.f3,.string x.f2.f4]:=⟨[.int .i64 x.f0],[.int .i64 x.f1,.int .i64 x.f2.f0,.int .i64 x.f2.f1,.int .i64 x.f2.f2,.int .i64 x.f2.f3,.string x.f2.f4],rfl,rfl,⟨[.int .i64 x.f1],[.int .i64 x.f2.f0,.int .i64 x.f2.f1,.int .i64 x.f2.f2,.int .i64 x.f2.f3,.string x.f2.f4],rfl,rfl,(k34_mk w x.f2 )⟩⟩
def rd_T36 (xs:List S36) (i:Int):S36:=xs.getD i.toNat z36
theorem at_T36 {w:World} {A:Option Addr} {n:Nat} {xs:List S36} (h:Kd.C k36 w A n xs) (i:Int) (h0:0≤i) (h1:i < n):∃ ad ,A=some ad∧w.cell? (ad.add (i.toNat * 7))=some (.int .i64 (rd_T36 xs i).f0)∧w.cell? ⟨(ad.add (i.toNat * 7)).block,(ad.add (i.toNat * 7)).off+1,none⟩=some (.int .i64 (rd_T36 xs i).f1)∧w.cell? ⟨(ad.add (i.toNat * 7)).block,(ad.add (i.toNat * 7)).off+2,none⟩=some (.int .i64 (rd_T36 xs i).f2.f0)∧w.cell? ⟨(ad.add (i.toNat * 7)).block,(ad.add (i.toNat * 7)).off+3,none⟩=some (.int .i64 (rd_T36 xs i).f2.f1)∧w.cell? ⟨(ad.add (i.toNat * 7)).block,(ad.add (i.toNat * 7)).off+4,none⟩=some (.int .i64 (rd_T36 xs i).f2.f2)∧w.cell? ⟨(ad.add (i.toNat * 7)).block,(ad.add (i.toNat * 7)).off+5,none⟩=some (.int .i64 (rd_T36 xs i).f2.f3)∧w.cell? ⟨(ad.add (i.toNat * 7)).block,(ad.add (i.toNat * 7)).off+6,none⟩=some (.string (rd_T36 xs i).f2.f4):=by
 obtain ⟨ad,c,e,_,hK,hc0⟩:=Kd.C_get h z36 i h0 h1
 have hc:∀ j u,c[j]?=some u→w.cell? (ad.add (i.toNat * 7+j))=some u:=hc0
 obtain rfl:=k36_open hK
 exact ⟨ad,e,hc 0 _ rfl,by rw [←add_field _ _ 1 (by omega)];exact hc 1 _ rfl,by rw [←add_field _ _ 2 (by omega)];exact hc 2 _ rfl,by rw [←add_field _ _ 3 (by omega)];exact hc 3 _ rfl,by rw [←add_field _ _ 4 (by omega)];exact hc 4 _ rfl,by rw [←add_field _ _ 5 (by omega)];exact hc 5 _ rfl,by rw [←add_field _ _ 6 (by omega)];exact hc 6 _ rfl⟩

end Go.Proofs.YtdpklbomhdpimaaDoor.P
namespace Go.Proofs.YtdpklbomhdpimaaDoor.P
open Go.RowKit Go.Proofs.YtdpklbomhdpimaaDoorW.PrintWords Go.Proofs.YtdpklbomhdpimaaDoorW.PrintLast Go.Proofs.YtdpklbomhdpimaaDoorW.PrintMore
def impl_Entry_85.f (l0:List S44):Option (List S44):=if l0.length < 2199023255552 then some l0 else none
theorem impl_Entry_85.calls (A0:Option Addr) (c0:Nat) (l0:List S44) (r:List S44) (w:World) (hr0:Kd.C k44 w A0 l0.length l0) (hc0:l0.length≤c0)
  (h:impl_Entry_85.f l0=some r) :
  Calls Tryd.prog 85 #[.slice A0 l0.length c0] w fun e w'=>∃ v0_:Value,e=.returned (v0_)∧Kd.R k44 44 w' w.heap.size (fun _=>True) v0_ r∧Below w.heap.size w w':=by
 unfold impl_Entry_85.f at h
 by_cases hlim:l0.length < 2199023255552
 ·rw [if_pos hlim] at h
  obtain rfl:=sj_ h
  clear h
  cases A0 with
  | none =>
   have hl:l0=[]:=by
    rcases Nat.eq_zero_or_pos l0.length with h0|h0
    ·exact List.length_eq_zero_iff.1 h0
    ·obtain ⟨ad,e,_⟩:=hr0.2.2 h0
     cases e
   subst hl
   simp only [List.length_nil]
   have hne:=fun (W:World)=>Lib.run_eql_slice_nil (P:=Tryd.prog) W 23 44 none 0 c0 0 0 Tryd.underlying23
   simp only [Option.isNone_none] at hne
   clear hr0 hlim hc0
   go_enter Tryd.func85,Tryd.ntmps85
   go_wp2
   go_ret
   exact ⟨_,rfl,Kd.R_nil _ _ _ _ _,Below.refl _ _⟩
  | some a =>
   have hne:=fun (W:World)=>Lib.run_eql_slice_nil (P:=Tryd.prog) W 23 44 (some a) l0.length c0 0 0 Tryd.underlying23
   simp only [Option.isNone_some] at hne
   have HR0:=a_ hr0
   have LM:=a_ hlim
   clear hr0 hlim
   have HB:=a_ (Below.refl w.heap.size w)
   go_enter Tryd.func85,Tryd.ntmps85
   go_wp2_with (first
    | ((with_reducible refine gD_ (N:=5) rfl ?_);refine Kd.R_lit k44 _ 44 ?hg (N:=5) ?hd (xs:=([]:List S44)) (inner:=[]) (ok:=fun _=>True) (okp:=fun _=>True) ?hr ?hp (fun _ hk=>hk) trivial (Below.refl _ _) (Nat.le_refl _) (by simp) ?_;(case hd=>rfl);(case hg=>rfl);(case hr=>first|(go_simp;done)|(go_simp;rfl));(case hp=>exact (Reps.none _ _));intro v200 w5 ho6 hb hg_ hnew_;clear hg_ hnew_;have HO:=a_ ho6;replace HB:=a_ (bS_ HB.out hb);clear hb ho6)
    | ((with_reducible refine gate_builtin (b:=.append) (xs:=#[.tmp 5,.tmp 6]) rfl ?_);at_builtin;refine Kd.R_append_rows k44 (w0:=w) w.heap.size rfl (.tmp 5) (.tmp 6) 23 44 (.agg #[(.int .i64 0),(.int .i64 0),(.int .i64 0),(.int .i64 0),(.int .i64 0),(.int .i64 0),(.string ⟨#[]⟩)]) 64 rfl Tryd.underlying23 info44 rfl (by decide) (by omega) _ ([]:List S44) l0 _ _ _ (fun _=>True) (fun _=>False) rfl rfl ?aO ?aR (fun _ _ h=>h) (fun _ h=>h.elim) ?aF ?aB ?aS ?aL ?_;(case aR=>exact Kd.C_below HR0.out HB.out);(case aB=>exact HB.out);(case aF=>exact (fun _ _=>trivial));(case aO=>exact HO.out);(case aS=>exact below_size HB.out);(case aL=>have:=LM.out;simp;omega);intro v203 w9 ho hb hg hat;clear HB HO;have HB:=a_ hb;have HO:=a_ ho;clear ho hb hg hat;obtain ⟨Ao10,co10,eo10⟩:=Kd.R_slice HO.out;subst eo10))
   go_ret
   exact ⟨_,rfl,HO.out,HB.out⟩
 ·rw [if_neg hlim] at h
  cases h
def Mach (w:World) (base g:Nat) (l:List S44) (q:Value) (s:Int) (u:Bool):Prop :=
 ∃ (A:Option Addr) (c:Nat),w.heap[g]?=some (.cells #[.slice A l.length c,q,.int .i64 s,.bool u] 107 (0,0))∧Kd.R k44 44 w base (fun k=>k≠g) (.slice A l.length c) l∧base≤g
theorem impl_machineOf.calls (A0:Option Addr) (c0:Nat) (l0:List S44) (a1:Int) (a2:Bool) (w:World) (hr0:Kd.C k44 w A0 l0.length l0) (hc0:l0.length≤c0) (hl:l0.length < 2199023255552) :
  Calls Tryd.prog 79 #[.agg #[.slice A0 l0.length c0,.int .i64 a1,.bool a2]] w fun e w'=>∃ g:Nat,e=.returned (.pointer (some ⟨g,0,none⟩))∧Mach w' w.heap.size g l0 (.slice none 0 0) a1 a2∧Below w.heap.size w w':=by
 have hf:impl_Entry_85.f l0=some l0:=if_pos hl
 have HF:=a_ hf
 have HR0:=a_ hr0
 have HC0:=a_ hc0
 clear hr0 hc0 hf hl
 have hu1:=Tryd.underlying25
 have hu2:=Tryd.underlying107
 have hu3:=Tryd.underlying103
 go_enter Tryd.func79,Tryd.ntmps79
 go_wp2
 have HB0:=a_ ((Below.refl w.heap.size w).alloc (Nat.le_refl _) (.cells #[.slice A0 l0.length c0,.int .i64 a1,.bool a2] 25))
 obtain ⟨W1,hW1⟩:∃ W1,W1=w.alloc (.cells #[.slice A0 l0.length c0,.int .i64 a1,.bool a2] 25):=⟨_,rfl⟩
 have hn0:W1.heap[w.heap.size]?=some (.cells #[.slice A0 l0.length c0,.int .i64 a1,.bool a2] 25 (0,0)):=by rw [hW1];simpa using heap_alloc_new w _
 have HN0:=a_ hn0
 rw [←hW1] at HB0 ⊢
 clear hW1 hn0
 have hs0:W1.cell? ⟨w.heap.size,0,none⟩=some (.slice A0 l0.length c0):=(bC_ HN0.out 0).trans rfl
 have hs1:W1.cell? ⟨w.heap.size,1,none⟩=some (.int .i64 a1):=(bC_ HN0.out 1).trans rfl
 have hs2:W1.cell? ⟨w.heap.size,2,none⟩=some (.bool a2):=(bC_ HN0.out 2).trans rfl
 have HBd:=a_ (below_drew1 HB0.out)
 have HNd:=a_ (bD_ HN0.out)
 clear HB0 HN0
 go_region_with (go_at_call 85;refine (impl_Entry_85.calls _ _ _ l0 _ (Kd.C_below HR0.out HBd.out) HC0.out HF.out).mono ?_;rintro e w2 ⟨v2,rfl,ho2,hb2⟩;obtain ⟨A2,c2,rfl⟩:=Kd.R_slice ho2;have HB2:=a_ (bS_ HBd.out hb2);have HN2:=a_ (blk_below HNd.out hb2);have HO2:=a_ ho2;clear hb2 ho2;have hd1:=(bC_ HN2.out 1).trans rfl;have hd2:=(bC_ HN2.out 2).trans rfl)
 all_goals go_wp2
 all_goals go_ret
 all_goals refine ⟨w2.heap.size,rfl,⟨A2,c2,by simpa using heap_alloc_new w2 _,Kd.R_mono (Kd.R_alloc (Kd.R_elderB (Kd.R_lower HO2.out HBd.out.size) _ (Nat.le_refl _)) _) (fun _ hk=>hk.2),HB2.out.size⟩,wA_ HB2.out _⟩
def Keep (g:Nat) (w w':World):Prop:=Below g w w'∧KeepBut w w' g none
theorem Keep.of_below {g:Nat} {w w':World} (h:Below w.heap.size w w') (hg:g≤w.heap.size):Keep g w w':=⟨⟨h.os,h.tape,h.output,h.size,fun k hk=>h.block k (by omega)⟩,KeepBut.of_below h g none⟩
theorem Keep.trans {g:Nat} {w w1 w2:World} (h:Keep g w w1) (k:Keep g w1 w2):Keep g w w2 :=
 ⟨⟨k.1.os.trans h.1.os,k.1.tape.trans h.1.tape,k.1.output.trans h.1.output,Nat.le_trans h.1.size k.1.size,fun i hi=>(k.1.block i hi).trans (h.1.block i hi)⟩,h.2.trans k.2 (.inl rfl)⟩
theorem Keep.set {g:Nat} {w w1:World} (h:Keep g w w1) (j:Nat) (v:Value):Keep g w (w1.setCell ⟨g,j,none⟩ v):=⟨h.1.setCell (p:=⟨g,j,none⟩) (Nat.le_refl _) v,h.2.set_ j v⟩
theorem Keep.far {g:Nat} {w w1:World} (h:Keep g w w1) {p:Addr} (hg:g≤w.heap.size) (hp:w.heap.size≤p.block) (v:Value):Keep g w (w1.setCell p v) :=
 ⟨h.1.setCell (Nat.le_trans hg hp) v,keep_far h.2 hp v⟩
theorem Keep.drewN {g:Nat} {w w1:World} (h:Keep g w w1) (m:Nat):Keep g w (w1.drewN m):=⟨⟨h.1.os,h.1.tape,h.1.output,h.1.size,h.1.block⟩,keep_drewN h.2 m⟩
theorem push_any (g:Nat) (SL:Value) (s:Int) (u:Bool) (e:S44) (w:World) (hb:w.heap[g]?=some (.cells #[SL,.slice none 0 0,.int .i64 s,.bool u] 107 (0,0))) :
  Calls Tryd.prog 80 #[.pointer (some ⟨g,1,none⟩),.agg #[.int .i64 e.f0,.int .i64 e.f1,.int .i64 e.f2.f0,.int .i64 e.f2.f1,.int .i64 e.f2.f2,.int .i64 e.f2.f3,.string e.f2.f4]] w fun x w'=>(∃ v,x=.returned v)∧∃ (A:Option Addr) (c:Nat),w'.heap[g]?=some (.cells #[SL,.slice A 1 c,.int .i64 s,.bool u] 107 (0,0))∧Kd.R k44 44 w' w.heap.size (fun k=>k≠g) (.slice A 1 c) [e]∧Keep g w w':=by
 have HBK:=a_ hb
 have HGL:=a_ (blk_lt hb)
 clear hb
 have hu1:=Tryd.underlying105
 have hu2:=Tryd.underlying44
 go_enter Tryd.func80,Tryd.ntmps80
 go_wp2_with (first|((with_reducible refine gD_ (N:=3) rfl ?_);refine bx_ 3 (#[.int .i64 e.f0,.int .i64 e.f1,.int .i64 e.f2.f0,.int .i64 e.f2.f1,.int .i64 e.f2.f2,.int .i64 e.f2.f3,.string e.f2.f4]) 44 ?_;intro g1 hg1 w1 hbox1 hb1;have HB1:=a_ hb1;have BK1:=a_ hbox1;have HBK1:=a_ (blk_below HBK.out hb1);clear hb1 hbox1 hg1))
 refine start_ (n:=11) (S:=fun w'=>w'.cell? ⟨g,1,none⟩=some (.slice none 0 0)∧w'.cell? ⟨g1,0,none⟩=some (.int .i64 e.f0)∧w'.cell? ⟨g1,1,none⟩=some (.int .i64 e.f1)∧w'.cell? ⟨g1,2,none⟩=some (.int .i64 e.f2.f0)∧w'.cell? ⟨g1,3,none⟩=some (.int .i64 e.f2.f1)∧w'.cell? ⟨g1,4,none⟩=some (.int .i64 e.f2.f2)∧w'.cell? ⟨g1,5,none⟩=some (.int .i64 e.f2.f3)∧w'.cell? ⟨g1,6,none⟩=some (.string e.f2.f4)) (ds:=[10]) #[false,false,false,false,false,false,false,false,false,false,false] (by kernel_rfl) rfl rfl ⟨(bC_ HBK1.out 1).trans rfl,(bC_ BK1.out 0).trans rfl,(bC_ BK1.out 1).trans rfl,(bC_ BK1.out 2).trans rfl,(bC_ BK1.out 3).trans rfl,(bC_ BK1.out 4).trans rfl,(bC_ BK1.out 5).trans rfl,(bC_ BK1.out 6).trans rfl⟩ (fun hHeld=>?_)
 refine pure_ (i:=0) (N:=some 4) (v:=?_) (a':=?_) #[true,false,false,false,false,false,false,false,false,false,false] rfl rfl (by kernel_rfl) (fun _ _ _ h=>h) (Or.inl ⟨by rfl,?_⟩) ?_ ?_
 rotate_left
 ·intro w'
  go_simp
  with_reducible rfl
 rotate_left
 ·simp only [Act.put,List.setIfInBounds_toArray,List.set_cons_zero,List.set_cons_succ,i64_w,i32_w]
  rfl
 refine pure_ (i:=1) (N:=some 5) (v:=?_) (a':=?_) #[true,true,false,false,false,false,false,false,false,false,false] rfl rfl (by kernel_rfl) (fun _ _ _ h=>h) (Or.inl ⟨by rfl,?_⟩) ?_ ?_
 rotate_left
 ·intro w'
  go_simp
  with_reducible rfl
 rotate_left
 ·simp only [Act.put,List.setIfInBounds_toArray,List.set_cons_zero,List.set_cons_succ,i64_w,i32_w]
  rfl
 refine pure_ (i:=2) (N:=some 6) (v:=?_) (a':=?_) #[true,true,true,false,false,false,false,false,false,false,false] rfl rfl (by kernel_rfl) (fun _ _ _ h=>h) (Or.inl ⟨by rfl,?_⟩) ?_ ?_
 rotate_left
 ·intro w'
  go_simp
  with_reducible rfl
 rotate_left
 ·simp only [Act.put,List.setIfInBounds_toArray,List.set_cons_zero,List.set_cons_succ,i64_w,i32_w]
  rfl
 refine pure_ (i:=3) (N:=some 7) (v:=?_) (a':=?_) #[true,true,true,true,false,false,false,false,false,false,false] rfl rfl (by kernel_rfl) (fun _ _ _ h=>h) (Or.inl ⟨by rfl,?_⟩) ?_ ?_
 rotate_left
 ·intro w'
  go_simp
  with_reducible rfl
 rotate_left
 ·simp only [Act.put,List.setIfInBounds_toArray,List.set_cons_zero,List.set_cons_succ,i64_w,i32_w]
  rfl
 refine take_ (i:=4) (N:=some 8) (v:=?_) (a':=?_) #[true,true,true,true,true,false,false,false,false,false,false] rfl rfl (by kernel_rfl) (fun _ _ _ h=>h) (Or.inl ⟨by rfl,?_⟩) hHeld ?_ ?_
 rotate_left
 ·rintro w' ⟨s0,s1,s2,s3,s4,s5,s6,s7⟩
  go_simp
  with_reducible rfl
 rotate_left
 ·simp only [Act.put,List.setIfInBounds_toArray,List.set_cons_zero,List.set_cons_succ,i64_w,i32_w]
  rfl
 refine take_ (i:=5) (N:=some 9) (v:=?_) (a':=?_) #[true,true,true,true,true,true,false,false,false,false,false] rfl rfl (by kernel_rfl) (fun _ _ _ h=>h) (Or.inl ⟨by rfl,?_⟩) hHeld ?_ ?_
 rotate_left
 ·rintro w' ⟨s0,s1,s2,s3,s4,s5,s6,s7⟩
  go_simp
  with_reducible rfl
 rotate_left
 ·simp only [Act.put,List.setIfInBounds_toArray,List.set_cons_zero,List.set_cons_succ,i64_w,i32_w]
  rfl
 have BKd:=a_ (bD_ BK1.out)
 have HBKd:=a_ (bD_ HBK1.out)
 have HBd:=a_ (below_drew1 HB1.out)
 generalize w1.drew=w2 at BKd HBKd HBd hHeld ⊢
 refine one_ (i:=6) (N:=some 10) #[true,true,true,true,true,true,true,false,false,false,false] rfl rfl (by kernel_rfl) (by decide) (fun K hK=>?_)
 refine Kd.R_lit_step (w0:=w) k44 w.heap.size 44 ?hg (N:=10) ?hd (xs:=[e]) (inner:=[.int .i64 e.f0,.int .i64 e.f1,.int .i64 e.f2.f0,.int .i64 e.f2.f1,.int .i64 e.f2.f2,.int .i64 e.f2.f3,.string e.f2.f4]) (ok:=fun k=>k≠g) (okp:=fun k=>k≠g) ?hr ?hp (fun _ hk=>hk) (by have h1:=HGL.out;have h2:=HBd.out.size;omega) HBd.out HBd.out.size (by simp) ?_
 case hd=>rfl
 case hg=>rfl
 case hr=>first|(go_simp;done)|(go_simp;rfl)
 case hp=>exact (Reps.front (show Kd.M k44 _ _ _ e [.int .i64 e.f0,.int .i64 e.f1,.int .i64 e.f2.f0,.int .i64 e.f2.f1,.int .i64 e.f2.f2,.int .i64 e.f2.f3,.string e.f2.f4] from k44_mkM _ _ _ e) rfl (Reps.none _ _) rfl)
 intro v3 w3 ho3 hb3 hg3 hn3
 obtain ⟨A3,c3,rfl⟩:=Kd.R_slice ho3
 have HO3:=a_ ho3
 have HB3:=a_ hb3
 have BK3:=a_ (blk_grown BKd.out hg3 (by simp))
 have HBK3:=a_ (blk_grown HBKd.out hg3 (by simp))
 clear ho3 hb3 hg3 hn3
 refine hK _ _ ⟨(bC_ HBK3.out 1).trans rfl,(bC_ BK3.out 0).trans rfl,(bC_ BK3.out 1).trans rfl,(bC_ BK3.out 2).trans rfl,(bC_ BK3.out 3).trans rfl,(bC_ BK3.out 4).trans rfl,(bC_ BK3.out 5).trans rfl,(bC_ BK3.out 6).trans rfl⟩ (fun hHeld3=>?_)
 clear hK K hHeld
 refine no_ 10 ?_
 refine one_ (i:=7) (N:=some 11) #[true,true,true,true,true,true,true,true,false,false,false] rfl rfl (by kernel_rfl) (by decide) (fun K hK=>?_)
 refine Kd.R_append_rows_step k44 (w0:=w) w.heap.size ?aW (.tmp 8) (.tmp 10) 23 44 (.agg #[(.int .i64 0),(.int .i64 0),(.int .i64 0),(.int .i64 0),(.int .i64 0),(.int .i64 0),(.string ⟨#[]⟩)]) 64 rfl Tryd.underlying23 info44 rfl (by decide) (by omega) (.slice none 0 0) ([]:List S44) [e] A3 1 c3 (fun k=>k≠g) (fun _=>False) rfl rfl ?aO ?aR (fun _ _ h=>h) (fun _ h=>h.elim) ?aF ?aB ?aS ?aL ?_
 case aW=>rfl
 case aR=>exact (Kd.R_reads' HO3.out).2.2
 case aB=>exact HB3.out
 case aF=>exact (fun k hk=>by have h1:=HGL.out;have h2:=HB3.out.size;omega)
 case aO=>exact Kd.R_nil _ _ _ _ _
 case aS=>exact HB3.out.size
 case aL=>simp
 intro v4 w4 ho4 hb4 hg4 hn4
 obtain ⟨A4,c4,rfl⟩:=Kd.R_slice ho4
 have HO4:=a_ ho4
 have HB4:=a_ hb4
 have BK4:=a_ (blk_grown BK3.out hg4 (by simp [Value.ownBlock]))
 have HBK4:=a_ (blk_grown HBK3.out hg4 (by simp [Value.ownBlock]))
 clear ho4 hb4 hg4 hn4
 refine hK _ _ ⟨(bC_ HBK4.out 1).trans rfl,(bC_ BK4.out 0).trans rfl,(bC_ BK4.out 1).trans rfl,(bC_ BK4.out 2).trans rfl,(bC_ BK4.out 3).trans rfl,(bC_ BK4.out 4).trans rfl,(bC_ BK4.out 5).trans rfl,(bC_ BK4.out 6).trans rfl⟩ (fun hHeld4=>?_)
 clear hK K hHeld3
 refine no_ 11 ?_
 refine pure_ (i:=8) (N:=some 12) (v:=?_) (a':=?_) #[true,true,true,true,true,true,true,true,true,false,false] rfl rfl (by kernel_rfl) (fun _ _ _ h=>h) (Or.inl ⟨by rfl,?_⟩) ?_ ?_
 rotate_left
 ·intro w'
  go_simp
  with_reducible rfl
 rotate_left
 ·simp only [Act.put,List.setIfInBounds_toArray,List.set_cons_zero,List.set_cons_succ,i64_w,i32_w]
  rfl
 refine pure_ (i:=9) (N:=some 13) (v:=?_) (a':=?_) #[true,true,true,true,true,true,true,true,true,true,false] rfl rfl (by kernel_rfl) (fun _ _ _ h=>h) (Or.inl ⟨by rfl,?_⟩) ?_ ?_
 rotate_left
 ·intro w'
  go_simp
  with_reducible rfl
 rotate_left
 ·simp only [Act.put,List.setIfInBounds_toArray,List.set_cons_zero,List.set_cons_succ,i64_w,i32_w]
  rfl
 refine last_ (i:=10) (N:=none) #[true,true,true,true,true,true,true,true,true,true,true] rfl rfl (by kernel_rfl) (by decide) (fun K hK=>?_)
 have hs5:w4.cell? ⟨g,1,none⟩=some (.slice none 0 0):=(bC_ HBK4.out 1).trans rfl
 have hfs5:=bF_ HBK4.out 1
 refine skip_ (w1:=?_) (by rfl) rfl ?_ ?_
 rotate_left
 ·go_simp
  rfl
 refine hK _ _ ?_
 clear hK K
 refine done_ (by kernel_rfl) ?_
 go_wp2
 go_end0
 refine ⟨⟨_,rfl⟩,A4,c4,(blk_set HBK4.out 1 _).trans rfl,?_,(Keep.of_below HB4.out (Nat.le_of_lt HGL.out)).set 1 _⟩
 exact Kd.R_far HO4.out (p:=⟨g,1,none⟩) (fun _ h=>h) _
theorem pop_none (g:Nat) (SL:Value) (A:Option Addr) (c:Nat) (s:Int) (u:Bool) (w:World) (hb:w.heap[g]?=some (.cells #[SL,.slice A 0 c,.int .i64 s,.bool u] 107 (0,0))) :
  Calls Tryd.prog 118 #[.pointer (some ⟨g,1,none⟩)] w fun x w'=>x=.returned (.tuple #[.agg #[.int .i64 0,.int .i64 0,.int .i64 0,.int .i64 0,.int .i64 0,.int .i64 0,.string ⟨#[]⟩],.bool false])∧Below w.heap.size w w':=by
 have HBK:=a_ hb
 clear hb
 have hu1:=Tryd.underlying105
 have hu2:=Tryd.underlying44
 go_enter Tryd.func118,Tryd.ntmps118
 go_wp2_with (first|((with_reducible refine gD_ (N:=2) rfl ?_);refine bx_ 2 (#[.int .i64 0,.int .i64 0,.int .i64 0,.int .i64 0,.int .i64 0,.int .i64 0,.string ⟨#[]⟩]) 44 ?_;intro g1 hg1 w1 hbox1 hb1;have HB1:=a_ hb1;have BK1:=a_ hbox1;have GE1:=a_ (Nat.le_of_eq hg1.symm);have HBK1:=a_ (blk_below HBK.out hb1);clear hb1 hbox1 hg1;have hs1:w1.cell? ⟨g,1,none⟩=some (.slice A 0 c):=(bC_ HBK1.out 1).trans rfl;have hz0:=(bC_ BK1.out 0).trans rfl;have hz1:=(bC_ BK1.out 1).trans rfl;have hz2:=(bC_ BK1.out 2).trans rfl;have hz3:=(bC_ BK1.out 3).trans rfl;have hz4:=(bC_ BK1.out 4).trans rfl;have hz5:=(bC_ BK1.out 5).trans rfl;have hz6:=(bC_ BK1.out 6).trans rfl;have hf0:=bF_ BK1.out 0;have hf1:=bF_ BK1.out 1;have hf2:=bF_ BK1.out 2;have hf3:=bF_ BK1.out 3;have hf4:=bF_ BK1.out 4;have hf5:=bF_ BK1.out 5;have hf6:=bF_ BK1.out 6))
 (try simp only [Exit.inBlock,Exit.then])
 refine bodyPost_ret (results_ct rfl _ _ g1 44 #[.int .i64 0,.int .i64 0,.int .i64 0,.int .i64 0,.int .i64 0,.int .i64 0,.string ⟨#[]⟩] (0,0) _ rfl ((blk_set (blk_set (blk_set (blk_set (blk_set (blk_set (blk_set BK1.out 0 _) 1 _) 2 _) 3 _) 4 _) 5 _) 6 _).trans rfl) Tryd.underlying44 rfl (by kernel_rfl)) rfl ?_
 exact ⟨rfl,wS_ (wS_ (wS_ (wS_ (wS_ (wS_ (wS_ HB1.out GE1.out) GE1.out) GE1.out) GE1.out) GE1.out) GE1.out) GE1.out⟩
theorem pop_one (g:Nat) (SL:Value) (A:Option Addr) (c:Nat) (s:Int) (u:Bool) (e:S44) (w:World) (hb:w.heap[g]?=some (.cells #[SL,.slice A 1 c,.int .i64 s,.bool u] 107 (0,0))) (base:Nat) (hr:Kd.R k44 44 w base (fun k=>k≠g) (.slice A 1 c) [e]) :
  Calls Tryd.prog 118 #[.pointer (some ⟨g,1,none⟩)] w fun x w'=>x=.returned (.tuple #[.agg #[.int .i64 e.f0,.int .i64 e.f1,.int .i64 e.f2.f0,.int .i64 e.f2.f1,.int .i64 e.f2.f2,.int .i64 e.f2.f3,.string e.f2.f4],.bool true])∧(∃ (A':Option Addr) (c':Nat),w'.heap[g]?=some (.cells #[SL,.slice A' 0 c',.int .i64 s,.bool u] 107 (0,0)))∧Keep g w w':=by
 have HBK:=a_ hb
 have HGL:=a_ (blk_lt hb)
 have HR:=a_ hr
 clear hb
 have hu1:=Tryd.underlying105
 have hu2:=Tryd.underlying44
 have h1c:1≤c:=(Kd.R_reads' hr).2.1
 obtain ⟨ad,e0,hx0,hx1,hx2,hx3,hx4,hx5,hx6⟩:=at_T44 (Kd.R_reads' hr).2.2 0 (by decide) (by simp)
 clear hr
 have hrd:rd_T44 [e] 0=e:=rfl
 rw [hrd] at hx0 hx1 hx2 hx3 hx4 hx5 hx6
 have hadd:ad.add ((0:Int).toNat * 7)=ad:=rfl
 rw [hadd] at hx0 hx1 hx2 hx3 hx4 hx5 hx6
 subst e0
 have HX:=a_ (And.intro hx0 (And.intro hx1 (And.intro hx2 (And.intro hx3 (And.intro hx4 (And.intro hx5 hx6))))))
 clear hx0 hx1 hx2 hx3 hx4 hx5 hx6 hadd hrd
 go_enter Tryd.func118,Tryd.ntmps118
 go_wp2_with (first|((with_reducible refine gD_ (N:=2) rfl ?_);refine bx_ 2 (#[.int .i64 0,.int .i64 0,.int .i64 0,.int .i64 0,.int .i64 0,.int .i64 0,.string ⟨#[]⟩]) 44 ?_;intro g1 hg1 w1 hbox1 hb1;have HB1:=a_ hb1;have BK1:=a_ hbox1;have GE1:=a_ (Nat.le_of_eq hg1.symm);have HBK1:=a_ (blk_below HBK.out hb1);clear hb1 hbox1 hg1;have hs1:w1.cell? ⟨g,1,none⟩=some (.slice (some ad) 1 c):=(bC_ HBK1.out 1).trans rfl;have hx0:=(HB1.out.cell (bl_ w _ HX.out.1)).trans HX.out.1;have hx1:=(HB1.out.cell (bl_ w _ HX.out.2.1)).trans HX.out.2.1;have hx2:=(HB1.out.cell (bl_ w _ HX.out.2.2.1)).trans HX.out.2.2.1;have hx3:=(HB1.out.cell (bl_ w _ HX.out.2.2.2.1)).trans HX.out.2.2.2.1;have hx4:=(HB1.out.cell (bl_ w _ HX.out.2.2.2.2.1)).trans HX.out.2.2.2.2.1;have hx5:=(HB1.out.cell (bl_ w _ HX.out.2.2.2.2.2.1)).trans HX.out.2.2.2.2.2.1;have hx6:=(HB1.out.cell (bl_ w _ HX.out.2.2.2.2.2.2)).trans HX.out.2.2.2.2.2.2)|((with_reducible refine gD_ (N:=4) rfl ?_);refine bx_ 4 (#[.int .i64 0,.int .i64 0,.int .i64 0,.int .i64 0,.int .i64 0,.int .i64 0,.string ⟨#[]⟩]) 44 ?_;intro g2 hg2 w2 hbox2 hb2;have HB2:=a_ (bS_ HB1.out hb2);have BK2:=a_ hbox2;have BK12:=a_ (blk_below BK1.out hb2);have GE2:=a_ (show w.heap.size≤g2 by rw [hg2];exact HB1.out.size);have HBK2:=a_ (blk_below HBK1.out hb2);have NE:=a_ (show g1≠g2 by have:=blk_lt BK1.out;omega);have hn1:=NE.out;have hn2:=hn1.symm;have hn3:g≠g2:=(by have:=blk_lt HBK.out;have:=GE2.out;omega);have hn4:=hn3.symm;have hn5:g≠g1:=(by have:=blk_lt HBK.out;have:=GE1.out;omega);have hn6:=hn5.symm;have hs2:w2.cell? ⟨g,1,none⟩=some (.slice (some ad) 1 c):=(bC_ HBK2.out 1).trans rfl;have hfs2:=bF_ HBK2.out 1;clear hb2 hbox2 hg2;have hz0:=(bC_ BK2.out 0).trans rfl;have hz1:=(bC_ BK2.out 1).trans rfl;have hz2:=(bC_ BK2.out 2).trans rfl;have hz3:=(bC_ BK2.out 3).trans rfl;have hz4:=(bC_ BK2.out 4).trans rfl;have hz5:=(bC_ BK2.out 5).trans rfl;have hz6:=(bC_ BK2.out 6).trans rfl;have hf0:=bF_ BK2.out 0;have hf1:=bF_ BK2.out 1;have hf2:=bF_ BK2.out 2;have hf3:=bF_ BK2.out 3;have hf4:=bF_ BK2.out 4;have hf5:=bF_ BK2.out 5;have hf6:=bF_ BK2.out 6;have hy0:=(bC_ BK12.out 0).trans rfl;have hy1:=(bC_ BK12.out 1).trans rfl;have hy2:=(bC_ BK12.out 2).trans rfl;have hy3:=(bC_ BK12.out 3).trans rfl;have hy4:=(bC_ BK12.out 4).trans rfl;have hy5:=(bC_ BK12.out 5).trans rfl;have hy6:=(bC_ BK12.out 6).trans rfl;have hyf0:=bF_ BK12.out 0;have hyf1:=bF_ BK12.out 1;have hyf2:=bF_ BK12.out 2;have hyf3:=bF_ BK12.out 3;have hyf4:=bF_ BK12.out 4;have hyf5:=bF_ BK12.out 5;have hyf6:=bF_ BK12.out 6))
 all_goals (try simp only [Exit.inBlock,Exit.then])
 all_goals refine bodyPost_ret (results_ct rfl _ _ g1 44 #[.int .i64 e.f0,.int .i64 e.f1,.int .i64 e.f2.f0,.int .i64 e.f2.f1,.int .i64 e.f2.f2,.int .i64 e.f2.f3,.string e.f2.f4] (0,0) _ rfl ((blk_set (blk_set (blk_set (blk_set (blk_set (blk_set (blk_set (blk_far (blk_far (blk_far (blk_far (blk_far (blk_far (blk_far (blk_far (BK12.out) NE.out _) NE.out _) NE.out _) NE.out _) NE.out _) NE.out _) NE.out _) hn6 _) 0 _) 1 _) 2 _) 3 _) 4 _) 5 _) 6 _).trans rfl) Tryd.underlying44 rfl (by kernel_rfl)) rfl ?_
 all_goals exact ⟨rfl,⟨_,_,(blk_far (blk_far (blk_far (blk_far (blk_far (blk_far (blk_far (blk_set (blk_far (blk_far (blk_far (blk_far (blk_far (blk_far (blk_far (HBK2.out) hn3 _) hn3 _) hn3 _) hn3 _) hn3 _) hn3 _) hn3 _) 1 _) hn5 _) hn5 _) hn5 _) hn5 _) hn5 _) hn5 _) hn5 _).trans rfl⟩,Keep.far (Keep.far (Keep.far (Keep.far (Keep.far (Keep.far (Keep.far (Keep.set (Keep.far (Keep.far (Keep.far (Keep.far (Keep.far (Keep.far (Keep.far (Keep.of_below HB2.out (Nat.le_of_lt HGL.out)) (p:=⟨g2,0,none⟩) (Nat.le_of_lt HGL.out) GE2.out _) (p:=⟨g2,1,none⟩) (Nat.le_of_lt HGL.out) GE2.out _) (p:=⟨g2,2,none⟩) (Nat.le_of_lt HGL.out) GE2.out _) (p:=⟨g2,3,none⟩) (Nat.le_of_lt HGL.out) GE2.out _) (p:=⟨g2,4,none⟩) (Nat.le_of_lt HGL.out) GE2.out _) (p:=⟨g2,5,none⟩) (Nat.le_of_lt HGL.out) GE2.out _) (p:=⟨g2,6,none⟩) (Nat.le_of_lt HGL.out) GE2.out _) 1 _) (p:=⟨g1,0,none⟩) (Nat.le_of_lt HGL.out) GE1.out _) (p:=⟨g1,1,none⟩) (Nat.le_of_lt HGL.out) GE1.out _) (p:=⟨g1,2,none⟩) (Nat.le_of_lt HGL.out) GE1.out _) (p:=⟨g1,3,none⟩) (Nat.le_of_lt HGL.out) GE1.out _) (p:=⟨g1,4,none⟩) (Nat.le_of_lt HGL.out) GE1.out _) (p:=⟨g1,5,none⟩) (Nat.le_of_lt HGL.out) GE1.out _) (p:=⟨g1,6,none⟩) (Nat.le_of_lt HGL.out) GE1.out _⟩
end Go.Proofs.YtdpklbomhdpimaaDoor.P
namespace Go.Proofs.YtdpklbomhdpimaaDoor.P
open Go.RowKit Go.Proofs.YtdpklbomhdpimaaDoorW.PrintWords Go.Proofs.YtdpklbomhdpimaaDoorW.PrintLast
theorem eqA42 (d:Nat) (w:World) (x0 y0:Int) (x1 y1:Int) (x2 y2:Int) (x3 y3:Int) (x4 y4:ByteArray) :
  (Op.equalIn (d+2) 42 (.agg #[.int .i64 x0,.int .i64 x1,.int .i64 x2,.int .i64 x3,.string x4]) (.agg #[.int .i64 y0,.int .i64 y1,.int .i64 y2,.int .i64 y3,.string y4])).run Tryd.prog w=.ok (x0==y0&&(x1==y1&&(x2==y2&&(x3==y3&&(x4.toList==y4.toList))))) w:=by
 refine eqA_of Tryd.underlying42 (by kernel_rfl) ?_
 refine eqf_cons (by rfl) (by go_simp;rfl) (by go_simp;rfl) (by go_simp) ?_
 refine eqf_cons (by rfl) (by go_simp;rfl) (by go_simp;rfl) (by go_simp) ?_
 refine eqf_cons (by rfl) (by go_simp;rfl) (by go_simp;rfl) (by go_simp) ?_
 refine eqf_cons (by rfl) (by go_simp;rfl) (by go_simp;rfl) (by go_simp) ?_
 exact eqf_last (by rfl) (by go_simp;rfl) (by go_simp;rfl) (by go_simp)
theorem eqA44 (d:Nat) (w:World) (x0 y0:Int) (x1 y1:Int) (x2 y2:Int) (x3 y3:Int) (x4 y4:Int) (x5 y5:Int) (x6 y6:ByteArray) :
  (Op.equalIn (d+3) 44 (.agg #[.int .i64 x0,.int .i64 x1,.int .i64 x2,.int .i64 x3,.int .i64 x4,.int .i64 x5,.string x6]) (.agg #[.int .i64 y0,.int .i64 y1,.int .i64 y2,.int .i64 y3,.int .i64 y4,.int .i64 y5,.string y6])).run Tryd.prog w=.ok (x0==y0&&(x1==y1&&((x2==y2&&(x3==y3&&(x4==y4&&(x5==y5&&(x6.toList==y6.toList)))))))) w:=by
 refine eqA_of Tryd.underlying44 (by kernel_rfl) ?_
 refine eqf_cons (by rfl) (by go_simp;rfl) (by go_simp;rfl) (by go_simp) ?_
 refine eqf_cons (by rfl) (by go_simp;rfl) (by go_simp;rfl) (by go_simp) ?_
 exact eqf_last (by rfl) (by go_simp) (by go_simp) (eqA42 (d+0) w _ _ _ _ _ _ _ _ _ _)
def spec_l12Seq.l0:Nat→List (S44)→Int→Int→Int→Option (Int)
 | 0,_,_,_,_=>none
 | k+1,x0,x1,x5,x6=>if x6 < (x0.length:Int) then (if 0≤x6 then (if ((rd_T44 x0 x6).f0)=x1 then (spec_l12Seq.l0 k x0 x1 (wrap64 (x5+1)) (wrap64 (x6+1))) else (spec_l12Seq.l0 k x0 x1 x5 (wrap64 (x6+1)))) else (none)) else (some x5)
def spec_l12Seq.f (k:Nat) (l0:List (S44)) (a1:Int):Option (Int):=spec_l12Seq.l0 k l0 a1 0 0
theorem spec_l12Seq.mono_l:∀ k,(∀ y0 y1 y2 y3,LeO (spec_l12Seq.l0 k y0 y1 y2 y3) (spec_l12Seq.l0 (k+1) y0 y1 y2 y3))
 | 0=>fun _ _ _ _ r h=>by simp [spec_l12Seq.l0] at h
 | k+1=>by
  have ih0:=spec_l12Seq.mono_l k
  ·intro y0 y1 y2 y3
   unfold spec_l12Seq.l0
   repeat' first
   | (with_reducible exact ih0 _ _ _ _)
   | (with_reducible exact LeO.refl _)
   | (with_reducible exact LeO.none _)
   | (with_reducible refine LeO.ite ?_ ?_)
   | (with_reducible refine LeO.bind ?_ (fun _=>?_))
   | exact ih0 _ _ _ _
   | exact LeO.none _
   | refine LeO.ite ?_ ?_
   | refine LeO.bind ?_ (fun _=>?_)
theorem spec_l12Seq.mono:∀ a0 a1 k,LeO (spec_l12Seq.f k a0 a1) (spec_l12Seq.f (k+1) a0 a1):=by
 intro a0 a1 k
 have ih0:=spec_l12Seq.mono_l k
 unfold spec_l12Seq.f
 repeat' first
   | (with_reducible exact ih0 _ _ _ _)
   | (with_reducible exact LeO.refl _)
   | (with_reducible exact LeO.none _)
   | (with_reducible refine LeO.ite ?_ ?_)
   | (with_reducible refine LeO.bind ?_ (fun _=>?_))
   | exact ih0 _ _ _ _
   | exact LeO.none _
   | refine LeO.ite ?_ ?_
   | refine LeO.bind ?_ (fun _=>?_)
theorem spec_l12Seq.calls (k:Nat) (A0:Option Addr) (c0:Nat) (l0:List (S44)) (a1:Int) (r:Int) (w:World) (hr0:Kd.C k44 w A0 l0.length l0) (hc0:l0.length≤c0) (h:spec_l12Seq.f k l0 a1=some r) :
  Calls Tryd.prog 90 #[.slice A0 l0.length c0,.int .i64 a1] w fun e w'=>e=.returned (.int .i64 r)∧Drawn0 w w':=by
 have HR0:=a_ hr0
 have HC0:=a_ hc0
 clear hr0 hc0
 unfold spec_l12Seq.f at h
 have H:=h
 clear h
 have H':=a_ H
 clear H
 go_enter Tryd.func90,Tryd.ntmps90
 go_wp2
 go_loopg [5,6] k (fun kq v5 v6 w'=>∃ (x5_1:Int) (x6_1:Int),v5=.int .i64 x5_1∧v6=.int .i64 x6_1∧Aside0 (spec_l12Seq.l0 kq l0 a1 x5_1 x6_1=some r)∧Aside0 (kq≤k)∧Drawn0 w w')
 case atStart=>exact ⟨(0),(0),(si_),(si_),H',⟨Nat.le_refl _⟩,by repeat (first|exact Drawn0.refl _|apply Drawn0.step)⟩
 case round =>
  clear H'
  try clear p2
  obtain ⟨x5_1,x6_1,rfl,rfl,HA,HK1,⟨m1,rfl⟩⟩:=hrel
  cases gk with
  | zero=>exact absurd HA.out (by simp [spec_l12Seq.l0])
  | succ k1 =>
   have H:=HA.out
   clear HA
   simp only [spec_l12Seq.l0] at H
   by_cases c3:x6_1 < (l0.length:Int)
   ·rw [if_pos c3] at H
    have c3b0:decide (x6_1 < (l0.length:Int))=true:=dt_ c3
    clear c3
    by_cases c4:0≤x6_1
    ·rw [if_pos c4] at H
     have c4b0:decide (0≤x6_1)=true:=dt_ c4
     clear c4
     by_cases c5:((rd_T44 l0 x6_1).f0)=a1
     ·rw [if_pos c5] at H
      have c5b0:(((rd_T44 l0 x6_1).f0)==a1)=true:=beq_iff_eq.mpr c5
      have c5b1:(((rd_T44 l0 x6_1).f0) != a1)=false:=be_ c5
      clear c5
      have H':=a_ H
      clear H
      have p107:0≤(x6_1:Int):=od_
      have q107:x6_1 < (l0.length:Int):=od_
      obtain ⟨ad107,e107,hx107_0,hx107_1,hx107_2,hx107_3,hx107_4,hx107_5,hx107_6⟩:=at_T44 HR0.out x6_1 p107 q107
      cases e107
      replace p107:=eq_true p107
      replace q107:=eq_true q107
      go_wp2
      go_roundg k1
      case measure=>have:=HK1.out;omega
      case rel=>exact ⟨(wrap64 (x5_1+1)),(wrap64 (x6_1+1)),(si_),(si_),H',⟨by have:=HK1.out;omega⟩,by repeat (first|exact Drawn0.refl _|apply Drawn0.step)⟩
     ·rw [if_neg c5] at H
      have c5b0:(((rd_T44 l0 x6_1).f0)==a1)=false:=bn_ c5
      have c5b1:(((rd_T44 l0 x6_1).f0) != a1)=true:=bne_iff_ne.mpr c5
      have H':=a_ H
      clear H
      have p107:0≤(x6_1:Int):=od_
      have q107:x6_1 < (l0.length:Int):=od_
      obtain ⟨ad107,e107,hx107_0,hx107_1,hx107_2,hx107_3,hx107_4,hx107_5,hx107_6⟩:=at_T44 HR0.out x6_1 p107 q107
      cases e107
      replace p107:=eq_true p107
      replace q107:=eq_true q107
      go_wp2
      go_roundg k1
      case measure=>have:=HK1.out;omega
      case rel=>exact ⟨(x5_1),(wrap64 (x6_1+1)),(si_),(si_),H',⟨by have:=HK1.out;omega⟩,by repeat (first|exact Drawn0.refl _|apply Drawn0.step)⟩
    ·rw [if_neg c4] at H
     exact absurd H (by simp)
   ·rw [if_neg c3] at H
    have c3b0:decide (x6_1 < (l0.length:Int))=false:=df_ c3
    clear c3
    obtain rfl:=sj_ H
    go_wp2
    go_ret
    exact ⟨si_,by repeat (first|exact Drawn0.refl _|apply Drawn0.step)⟩

def spec_l6In.f (a0:Int) (a1:Int) (a2:Int):Option (Bool):=if a0≥a1 then (some (decide (a0≤a2))) else (some false)
theorem spec_l6In.calls (a0:Int) (a1:Int) (a2:Int) (r:Bool) (w:World) (h:spec_l6In.f a0 a1 a2=some r) :
  Calls Tryd.prog 75 #[.int .i64 a0,.int .i64 a1,.int .i64 a2] w fun e w'=>e=.returned (.bool r)∧Drawn0 w w':=by
 unfold spec_l6In.f at h
 have H:=h
 clear h
 by_cases c4:a0≥a1
 ·rw [if_pos c4] at H
  have c4b0:decide (a1≤a0)=true:=dt_ c4
  clear c4
  obtain rfl:=sj_ H
  go_enter Tryd.func75,Tryd.ntmps75
  go_wp2
  go_ret
  exact ⟨si_,by repeat (first|exact Drawn0.refl _|apply Drawn0.step)⟩
 ·rw [if_neg c4] at H
  have c4b0:decide (a1≤a0)=false:=df_ c4
  clear c4
  obtain rfl:=sj_ H
  go_enter Tryd.func75,Tryd.ntmps75
  go_wp2
  go_ret
  exact ⟨si_,by repeat (first|exact Drawn0.refl _|apply Drawn0.step)⟩

def spec_l1Made.f (a0:Int):Option (Bool):=(spec_l6In.f (wrap64 (Int.tdiv a0 10)) 1 3).bind fun t166=>(if t166=true then ((spec_l6In.f (Int.tmod a0 10) 1 6).bind fun t167=>(some t167)) else (some false))
theorem spec_l1Made.calls (a0:Int) (r:Bool) (w:World) (h:spec_l1Made.f a0=some r) :
  Calls Tryd.prog 120 #[.int .i64 a0] w fun e w'=>e=.returned (.bool r)∧Drawn0 w w':=by
 unfold spec_l1Made.f at h
 have H:=h
 clear h
 replace H:=bs_ H
 obtain ⟨t166,A20,H⟩:=H
 try dsimp only at H
 have A2:=a_ A20
 clear A20
 by_cases c3:t166=true
 ·subst c3
  have H1:((spec_l6In.f (Int.tmod a0 10) 1 6).bind fun t167=>(some t167))=some r:=by rw [if_pos rfl] at H;exact H
  clear H
  have H:=H1
  clear H1
  replace H:=bs_ H
  obtain ⟨t167,A40,H⟩:=H
  try dsimp only at H
  have A4:=a_ A40
  clear A40
  obtain rfl:=sj_ H
  go_enter Tryd.func120,Tryd.ntmps120
  go_wp2_with (first|((with_reducible refine gC_ (f:=75) rfl ?_);refine gl_ 5 Tryd.func75 #[.int .i64 (wrap64 (Int.tdiv a0 10)),.int .i64 1,.int .i64 3] ?_;(with_reducible refine (spec_l6In.calls (wrap64 (Int.tdiv a0 10)) 1 3 true _ A2.out).mono ?_);rintro e w' ⟨rfl,⟨nd,rfl⟩⟩;refine ⟨_,rfl,?_⟩)|(go_at_call 75;(with_reducible refine (spec_l6In.calls (Int.tmod a0 10) 1 6 t167 _ A4.out).mono ?_);rintro e w' ⟨rfl,⟨nd,rfl⟩⟩))
  go_ret
  exact ⟨si_,by repeat (first|exact Drawn0.refl _|apply Drawn0.step)⟩
 ·replace c3:=Bool.eq_false_iff.mpr c3
  subst c3
  have H1:(some false)=some r:=by rw [if_neg (show ¬ (false=true) by decide)] at H;exact H
  clear H
  have H:=H1
  clear H1
  obtain rfl:=sj_ H
  go_enter Tryd.func120,Tryd.ntmps120
  go_wp2_with (first|((with_reducible refine gC_ (f:=75) rfl ?_);refine gl_ 5 Tryd.func75 #[.int .i64 (wrap64 (Int.tdiv a0 10)),.int .i64 1,.int .i64 3] ?_;(with_reducible refine (spec_l6In.calls (wrap64 (Int.tdiv a0 10)) 1 3 false _ A2.out).mono ?_);rintro e w' ⟨rfl,⟨nd,rfl⟩⟩;refine ⟨_,rfl,?_⟩))
  go_ret
  exact ⟨si_,by repeat (first|exact Drawn0.refl _|apply Drawn0.step)⟩

def spec_l1Text.l0:Nat→ByteArray→Int→Option (Bool)
 | 0,_,_=>none
 | k+1,x0,x3=>if x3 < (x0.size:Int) then (if 0≤x3 then ((spec_l6In.f (wrap64 (bt x0 x3)) 97 100).bind fun t168=>(if t168=true then (spec_l1Text.l0 k x0 (wrap64 (x3+1))) else (some false))) else (none)) else (some (decide ((x0.size:Int)≤4)))
def spec_l1Text.f (k:Nat) (a0:ByteArray):Option (Bool):=spec_l1Text.l0 k a0 0
theorem spec_l1Text.mono_l:∀ k,(∀ y0 y1,LeO (spec_l1Text.l0 k y0 y1) (spec_l1Text.l0 (k+1) y0 y1))
 | 0=>fun _ _ r h=>by simp [spec_l1Text.l0] at h
 | k+1=>by
  have ih0:=spec_l1Text.mono_l k
  ·intro y0 y1
   unfold spec_l1Text.l0
   repeat' first
   | (with_reducible exact ih0 _ _)
   | (with_reducible exact LeO.refl _)
   | (with_reducible exact LeO.none _)
   | (with_reducible refine LeO.ite ?_ ?_)
   | (with_reducible refine LeO.bind ?_ (fun _=>?_))
   | exact ih0 _ _
   | exact LeO.none _
   | refine LeO.ite ?_ ?_
   | refine LeO.bind ?_ (fun _=>?_)
theorem spec_l1Text.mono:∀ a0 k,LeO (spec_l1Text.f k a0) (spec_l1Text.f (k+1) a0):=by
 intro a0 k
 have ih0:=spec_l1Text.mono_l k
 unfold spec_l1Text.f
 repeat' first
   | (with_reducible exact ih0 _ _)
   | (with_reducible exact LeO.refl _)
   | (with_reducible exact LeO.none _)
   | (with_reducible refine LeO.ite ?_ ?_)
   | (with_reducible refine LeO.bind ?_ (fun _=>?_))
   | exact ih0 _ _
   | exact LeO.none _
   | refine LeO.ite ?_ ?_
   | refine LeO.bind ?_ (fun _=>?_)
theorem spec_l1Text.calls (k:Nat) (a0:ByteArray) (r:Bool) (w:World) (h:spec_l1Text.f k a0=some r) :
  Calls Tryd.prog 121 #[.string a0] w fun e w'=>e=.returned (.bool r)∧Drawn0 w w':=by
 unfold spec_l1Text.f at h
 have H:=h
 clear h
 have H':=a_ H
 clear H
 go_enter Tryd.func121,Tryd.ntmps121
 go_wp2
 go_loopg [3] k (fun kq v3 w'=>∃ (x3_1:Int),v3=.int .i64 x3_1∧Aside0 (spec_l1Text.l0 kq a0 x3_1=some r)∧Aside0 (kq≤k)∧Drawn0 w w')
 case atStart=>exact ⟨(0),(si_),H',⟨Nat.le_refl _⟩,by repeat (first|exact Drawn0.refl _|apply Drawn0.step)⟩
 case round =>
  clear H'
  try clear c1
  obtain ⟨x3_1,rfl,HA,HK1,⟨m1,rfl⟩⟩:=hrel
  cases gk with
  | zero=>exact absurd HA.out (by simp [spec_l1Text.l0])
  | succ k1 =>
   have H:=HA.out
   clear HA
   simp only [spec_l1Text.l0] at H
   by_cases c2:x3_1 < (a0.size:Int)
   ·rw [if_pos c2] at H
    have c2b0:decide (x3_1 < (a0.size:Int))=true:=dt_ c2
    clear c2
    by_cases c3:0≤x3_1
    ·rw [if_pos c3] at H
     have c3b0:decide (0≤x3_1)=true:=dt_ c3
     clear c3
     replace H:=bs_ H
     obtain ⟨t168,A50,H⟩:=H
     try dsimp only at H
     have A5:=a_ A50
     clear A50
     by_cases c6:t168=true
     ·subst c6
      have H1:(spec_l1Text.l0 k1 a0 (wrap64 (x3_1+1)))=some r:=by rw [if_pos rfl] at H;exact H
      clear H
      have H:=H1
      clear H1
      have H':=a_ H
      clear H
      have p4:0≤(x3_1:Int):=od_
      have q4:x3_1 < (a0.size:Int):=od_
      have hx4:=bt_at a0 x3_1
      replace p4:=eq_true p4
      replace q4:=eq_true q4
      go_wp2_with (first|((with_reducible refine gC_ (f:=75) rfl ?_);refine gl_ 14 Tryd.func75 #[.int .i64 (wrap64 (bt a0 x3_1)),.int .i64 97,.int .i64 100] ?_;(with_reducible refine (spec_l6In.calls (wrap64 (bt a0 x3_1)) 97 100 true _ A5.out).mono ?_);rintro e w' ⟨rfl,⟨nd,rfl⟩⟩;refine ⟨_,rfl,?_⟩))
      go_roundg k1
      case measure=>have:=HK1.out;omega
      case rel=>exact ⟨(wrap64 (x3_1+1)),(si_),H',⟨by have:=HK1.out;omega⟩,by repeat (first|exact Drawn0.refl _|apply Drawn0.step)⟩
     ·replace c6:=Bool.eq_false_iff.mpr c6
      subst c6
      have H1:(some false)=some r:=by rw [if_neg (show ¬ (false=true) by decide)] at H;exact H
      clear H
      have H:=H1
      clear H1
      obtain rfl:=sj_ H
      have p4:0≤(x3_1:Int):=od_
      have q4:x3_1 < (a0.size:Int):=od_
      have hx4:=bt_at a0 x3_1
      replace p4:=eq_true p4
      replace q4:=eq_true q4
      go_wp2_with (first|((with_reducible refine gC_ (f:=75) rfl ?_);refine gl_ 14 Tryd.func75 #[.int .i64 (wrap64 (bt a0 x3_1)),.int .i64 97,.int .i64 100] ?_;(with_reducible refine (spec_l6In.calls (wrap64 (bt a0 x3_1)) 97 100 false _ A5.out).mono ?_);rintro e w' ⟨rfl,⟨nd,rfl⟩⟩;refine ⟨_,rfl,?_⟩))
      go_ret
      exact ⟨si_,by repeat (first|exact Drawn0.refl _|apply Drawn0.step)⟩
    ·rw [if_neg c3] at H
     exact absurd H (by simp)
   ·rw [if_neg c2] at H
    have c2b0:decide (x3_1 < (a0.size:Int))=false:=df_ c2
    clear c2
    obtain rfl:=sj_ H
    go_wp2
    go_ret
    exact ⟨si_,by repeat (first|exact Drawn0.refl _|apply Drawn0.step)⟩

def impl_whoOk.f (a0:Int):Option (Bool):=if a0≥1 then (some (decide (a0≤3))) else (some false)
theorem impl_whoOk.calls (a0:Int) (r:Bool) (w:World) (h:impl_whoOk.f a0=some r) :
  Calls Tryd.prog 104 #[.int .i64 a0] w fun e w'=>e=.returned (.bool r)∧Drawn0 w w':=by
 unfold impl_whoOk.f at h
 have H:=h
 clear h
 by_cases c2:a0≥1
 ·rw [if_pos c2] at H
  have c2b0:decide (1≤a0)=true:=dt_ c2
  clear c2
  obtain rfl:=sj_ H
  go_enter Tryd.func104,Tryd.ntmps104
  go_wp2
  go_ret
  exact ⟨si_,by repeat (first|exact Drawn0.refl _|apply Drawn0.step)⟩
 ·rw [if_neg c2] at H
  have c2b0:decide (1≤a0)=false:=df_ c2
  clear c2
  obtain rfl:=sj_ H
  go_enter Tryd.func104,Tryd.ntmps104
  go_wp2
  go_ret
  exact ⟨si_,by repeat (first|exact Drawn0.refl _|apply Drawn0.step)⟩

end Go.Proofs.YtdpklbomhdpimaaDoor.P
namespace Go.Proofs.YtdpklbomhdpimaaDoor.P
open Go.RowKit Go.Proofs.YtdpklbomhdpimaaDoorW.PrintWords
def impl_RowWho.f (a0:Int):Option (Int×Bool):=some (if ownI a0=0 then (0,false) else (ownI a0 - 1,true))
theorem impl_RowWho.calls (a0:Int) (r1:Int) (r2:Bool) (w:World) (h:impl_RowWho.f a0=some (r1,r2)) (hG:Glob w) :
  Calls Tryd.prog 117 #[.int .i64 a0] w fun e w'=>e=.returned (.tuple #[.int .i64 r1,.bool r2])∧Drawn0 w w':=by
 unfold impl_RowWho.f at h
 by_cases h0:0≤a0
 ·by_cases h1:a0 < 37
  ·have hc:=hG.at_ a0 h0 h1
   have hr:=ownI_range a0
   generalize ownI a0=z at hc hr h
   by_cases hz:z=0
   ·subst hz
    simp only [if_true,Option.some.injEq,Prod.mk.injEq] at h
    obtain ⟨rfl,rfl⟩:=h
    clear hr hG
    go_enter Tryd.func117,Tryd.ntmps117
    go_wp2
    go_ret2
    exact ⟨rfl,Drawn0.refl _⟩
   ·rw [if_neg hz] at h
    simp only [Option.some.injEq,Prod.mk.injEq] at h
    obtain ⟨rfl,rfl⟩:=h
    have hz1:(z==0)=false:=beq_eq_false_iff_ne.2 hz
    have hr1:0≤z:=hr.1
    have hr2:z≤4:=hr.2
    clear hr hG
    go_enter Tryd.func117,Tryd.ntmps117
    go_wp2
    go_ret2
    exact ⟨rfl,Drawn0.refl _⟩
  ·have e:ownI a0=0:=by rw [ownI,if_neg (by omega)]
   rw [if_pos e] at h
   simp only [Option.some.injEq,Prod.mk.injEq] at h
   obtain ⟨rfl,rfl⟩:=h
   clear e hG
   go_enter Tryd.func117,Tryd.ntmps117
   go_wp2
   go_ret2
   exact ⟨rfl,Drawn0.refl _⟩
 ·have e:ownI a0=0:=by rw [ownI,if_neg (by omega)]
  rw [if_pos e] at h
  simp only [Option.some.injEq,Prod.mk.injEq] at h
  obtain ⟨rfl,rfl⟩:=h
  clear e hG
  have hlt:a0 < 0:=by omega
  go_enter Tryd.func117,Tryd.ntmps117
  go_wp2
  go_ret2
  exact ⟨rfl,Drawn0.refl _⟩
end Go.Proofs.YtdpklbomhdpimaaDoor.P
namespace Go.Proofs.YtdpklbomhdpimaaDoor.P
open Go.RowKit Go.Proofs.YtdpklbomhdpimaaDoorW.PrintWords Go.Proofs.YtdpklbomhdpimaaDoorW.PrintLast
def impl_isMade.f (a0:Int):Option (Bool):=(impl_RowWho.f a0).bind fun bt396=>(if bt396.2=true then (some (bt396.1 != 0)) else (some false))
theorem impl_isMade.calls (a0:Int) (r:Bool) (w:World) (h:impl_isMade.f a0=some r) (hG:Glob w) :
  Calls Tryd.prog 127 #[.int .i64 a0] w fun e w'=>e=.returned (.bool r)∧Drawn0 w w':=by
 have HG:=a_ hG
 clear hG
 unfold impl_isMade.f at h
 have H:=h
 clear h
 replace H:=bs_ H
 obtain ⟨⟨t396,t397⟩,A20,H⟩:=H
 try dsimp only at H
 have A2:=a_ A20
 clear A20
 by_cases c3:t397=true
 ·subst c3
  have H1:(some (t396 != 0))=some r:=by rw [if_pos rfl] at H;exact H
  clear H
  have H:=H1
  clear H1
  obtain rfl:=sj_ H
  go_enter Tryd.func127,Tryd.ntmps127
  go_wp2_with (first|((with_reducible refine gC_ (f:=117) rfl ?_);refine gl_ 7 Tryd.func117 #[.int .i64 a0] ?_;(with_reducible refine (impl_RowWho.calls a0 t396 true _ A2.out ?side1).mono ?_);(case side1=>exact hg_);rintro e w' ⟨rfl,⟨nd,rfl⟩⟩;refine ⟨_,rfl,?_⟩))
  go_ret
  exact ⟨si_,by repeat (first|exact Drawn0.refl _|apply Drawn0.step)⟩
 ·replace c3:=Bool.eq_false_iff.mpr c3
  subst c3
  have H1:(some false)=some r:=by rw [if_neg (show ¬ (false=true) by decide)] at H;exact H
  clear H
  have H:=H1
  clear H1
  obtain rfl:=sj_ H
  go_enter Tryd.func127,Tryd.ntmps127
  go_wp2_with (first|((with_reducible refine gC_ (f:=117) rfl ?_);refine gl_ 7 Tryd.func117 #[.int .i64 a0] ?_;(with_reducible refine (impl_RowWho.calls a0 t396 false _ A2.out ?side1).mono ?_);(case side1=>exact hg_);rintro e w' ⟨rfl,⟨nd,rfl⟩⟩;refine ⟨_,rfl,?_⟩))
  go_ret
  exact ⟨si_,by repeat (first|exact Drawn0.refl _|apply Drawn0.step)⟩

def impl_isRoot.f (a0:Int):Option (Bool):=(impl_RowWho.f a0).bind fun bt398=>(if bt398.2=true then (some (bt398.1==0)) else (some false))
theorem impl_isRoot.calls (a0:Int) (r:Bool) (w:World) (h:impl_isRoot.f a0=some r) (hG:Glob w) :
  Calls Tryd.prog 98 #[.int .i64 a0] w fun e w'=>e=.returned (.bool r)∧Drawn0 w w':=by
 have HG:=a_ hG
 clear hG
 unfold impl_isRoot.f at h
 have H:=h
 clear h
 replace H:=bs_ H
 obtain ⟨⟨t398,t399⟩,A20,H⟩:=H
 try dsimp only at H
 have A2:=a_ A20
 clear A20
 by_cases c3:t399=true
 ·subst c3
  have H1:(some (t398==0))=some r:=by rw [if_pos rfl] at H;exact H
  clear H
  have H:=H1
  clear H1
  obtain rfl:=sj_ H
  go_enter Tryd.func98,Tryd.ntmps98
  go_wp2_with (first|((with_reducible refine gC_ (f:=117) rfl ?_);refine gl_ 7 Tryd.func117 #[.int .i64 a0] ?_;(with_reducible refine (impl_RowWho.calls a0 t398 true _ A2.out ?side1).mono ?_);(case side1=>exact hg_);rintro e w' ⟨rfl,⟨nd,rfl⟩⟩;refine ⟨_,rfl,?_⟩))
  go_ret
  exact ⟨si_,by repeat (first|exact Drawn0.refl _|apply Drawn0.step)⟩
 ·replace c3:=Bool.eq_false_iff.mpr c3
  subst c3
  have H1:(some false)=some r:=by rw [if_neg (show ¬ (false=true) by decide)] at H;exact H
  clear H
  have H:=H1
  clear H1
  obtain rfl:=sj_ H
  go_enter Tryd.func98,Tryd.ntmps98
  go_wp2_with (first|((with_reducible refine gC_ (f:=117) rfl ?_);refine gl_ 7 Tryd.func117 #[.int .i64 a0] ?_;(with_reducible refine (impl_RowWho.calls a0 t398 false _ A2.out ?side1).mono ?_);(case side1=>exact hg_);rintro e w' ⟨rfl,⟨nd,rfl⟩⟩;refine ⟨_,rfl,?_⟩))
  go_ret
  exact ⟨si_,by repeat (first|exact Drawn0.refl _|apply Drawn0.step)⟩

def impl_placeOk.f (a0:Int) (a1:Int):Option (Bool):=(impl_isMade.f a0).bind fun t400=>(if t400=true then (if a1=0 then (some true) else ((impl_isMade.f a1).bind fun t401=>(some t401))) else ((impl_isRoot.f a0).bind fun t402=>(if t402=true then (if a1=0 then (some true) else ((impl_isMade.f a1).bind fun t403=>(some t403))) else (some false))))
theorem impl_placeOk.calls (a0:Int) (a1:Int) (r:Bool) (w:World) (h:impl_placeOk.f a0 a1=some r) (hG:Glob w) :
  Calls Tryd.prog 128 #[.int .i64 a0,.int .i64 a1] w fun e w'=>e=.returned (.bool r)∧Drawn0 w w':=by
 have HG:=a_ hG
 clear hG
 unfold impl_placeOk.f at h
 have H:=h
 clear h
 replace H:=bs_ H
 obtain ⟨t400,A30,H⟩:=H
 try dsimp only at H
 have A3:=a_ A30
 clear A30
 by_cases c4:t400=true
 ·subst c4
  have H1:(if a1=0 then (some true) else ((impl_isMade.f a1).bind fun t401=>(some t401)))=some r:=by rw [if_pos rfl] at H;exact H
  clear H
  have H:=H1
  clear H1
  by_cases c5:a1=0
  ·rw [if_pos c5] at H
   have c5b0:(a1==0)=true:=beq_iff_eq.mpr c5
   have c5b1:(a1 != 0)=false:=be_ c5
   clear c5
   obtain rfl:=sj_ H
   go_enter Tryd.func128,Tryd.ntmps128
   go_wp2_with (first|((with_reducible refine gC_ (f:=127) rfl ?_);refine gl_ 6 Tryd.func127 #[.int .i64 a0] ?_;(with_reducible refine (impl_isMade.calls a0 true _ A3.out ?side1).mono ?_);(case side1=>exact hg_);rintro e w' ⟨rfl,⟨nd,rfl⟩⟩;refine ⟨_,rfl,?_⟩))
   go_ret
   exact ⟨si_,by repeat (first|exact Drawn0.refl _|apply Drawn0.step)⟩
  ·rw [if_neg c5] at H
   have c5b0:(a1==0)=false:=bn_ c5
   have c5b1:(a1 != 0)=true:=bne_iff_ne.mpr c5
   replace H:=bs_ H
   obtain ⟨t401,A60,H⟩:=H
   try dsimp only at H
   have A6:=a_ A60
   clear A60
   obtain rfl:=sj_ H
   go_enter Tryd.func128,Tryd.ntmps128
   go_wp2_with (first|((with_reducible refine gC_ (f:=127) rfl ?_);refine gl_ 6 Tryd.func127 #[.int .i64 a0] ?_;(with_reducible refine (impl_isMade.calls a0 true _ A3.out ?side1).mono ?_);(case side1=>exact hg_);rintro e w' ⟨rfl,⟨nd,rfl⟩⟩;refine ⟨_,rfl,?_⟩)|(go_at_call 127;(with_reducible refine (impl_isMade.calls a1 t401 _ A6.out ?side1).mono ?_);(case side1=>exact hg_);rintro e w' ⟨rfl,⟨nd,rfl⟩⟩))
   go_ret
   exact ⟨si_,by repeat (first|exact Drawn0.refl _|apply Drawn0.step)⟩
 ·replace c4:=Bool.eq_false_iff.mpr c4
  subst c4
  have H1:((impl_isRoot.f a0).bind fun t402=>(if t402=true then (if a1=0 then (some true) else ((impl_isMade.f a1).bind fun t403=>(some t403))) else (some false)))=some r:=by rw [if_neg (show ¬ (false=true) by decide)] at H;exact H
  clear H
  have H:=H1
  clear H1
  replace H:=bs_ H
  obtain ⟨t402,A70,H⟩:=H
  try dsimp only at H
  have A7:=a_ A70
  clear A70
  by_cases c8:t402=true
  ·subst c8
   have H1:(if a1=0 then (some true) else ((impl_isMade.f a1).bind fun t403=>(some t403)))=some r:=by rw [if_pos rfl] at H;exact H
   clear H
   have H:=H1
   clear H1
   by_cases c9:a1=0
   ·rw [if_pos c9] at H
    have c9b0:(a1==0)=true:=beq_iff_eq.mpr c9
    have c9b1:(a1 != 0)=false:=be_ c9
    clear c9
    obtain rfl:=sj_ H
    go_enter Tryd.func128,Tryd.ntmps128
    go_wp2_with (first|((with_reducible refine gC_ (f:=127) rfl ?_);refine gl_ 6 Tryd.func127 #[.int .i64 a0] ?_;(with_reducible refine (impl_isMade.calls a0 false _ A3.out ?side1).mono ?_);(case side1=>exact hg_);rintro e w' ⟨rfl,⟨nd,rfl⟩⟩;refine ⟨_,rfl,?_⟩)|(go_at_call 98;(with_reducible refine (impl_isRoot.calls a0 true _ A7.out ?side1).mono ?_);(case side1=>exact hg_);rintro e w' ⟨rfl,⟨nd,rfl⟩⟩))
    go_ret
    exact ⟨si_,by repeat (first|exact Drawn0.refl _|apply Drawn0.step)⟩
   ·rw [if_neg c9] at H
    have c9b0:(a1==0)=false:=bn_ c9
    have c9b1:(a1 != 0)=true:=bne_iff_ne.mpr c9
    replace H:=bs_ H
    obtain ⟨t403,A100,H⟩:=H
    try dsimp only at H
    have A10:=a_ A100
    clear A100
    obtain rfl:=sj_ H
    go_enter Tryd.func128,Tryd.ntmps128
    go_wp2_with (first|((with_reducible refine gC_ (f:=127) rfl ?_);refine gl_ 6 Tryd.func127 #[.int .i64 a0] ?_;(with_reducible refine (impl_isMade.calls a0 false _ A3.out ?side1).mono ?_);(case side1=>exact hg_);rintro e w' ⟨rfl,⟨nd,rfl⟩⟩;refine ⟨_,rfl,?_⟩)|(go_at_call 98;(with_reducible refine (impl_isRoot.calls a0 true _ A7.out ?side1).mono ?_);(case side1=>exact hg_);rintro e w' ⟨rfl,⟨nd,rfl⟩⟩)|(go_at_call 127;(with_reducible refine (impl_isMade.calls a1 t403 _ A10.out ?side1).mono ?_);(case side1=>exact hg_);rintro e w' ⟨rfl,⟨nd,rfl⟩⟩))
    go_ret
    exact ⟨si_,by repeat (first|exact Drawn0.refl _|apply Drawn0.step)⟩
  ·replace c8:=Bool.eq_false_iff.mpr c8
   subst c8
   have H1:(some false)=some r:=by rw [if_neg (show ¬ (false=true) by decide)] at H;exact H
   clear H
   have H:=H1
   clear H1
   obtain rfl:=sj_ H
   go_enter Tryd.func128,Tryd.ntmps128
   go_wp2_with (first|((with_reducible refine gC_ (f:=127) rfl ?_);refine gl_ 6 Tryd.func127 #[.int .i64 a0] ?_;(with_reducible refine (impl_isMade.calls a0 false _ A3.out ?side1).mono ?_);(case side1=>exact hg_);rintro e w' ⟨rfl,⟨nd,rfl⟩⟩;refine ⟨_,rfl,?_⟩)|(go_at_call 98;(with_reducible refine (impl_isRoot.calls a0 false _ A7.out ?side1).mono ?_);(case side1=>exact hg_);rintro e w' ⟨rfl,⟨nd,rfl⟩⟩))
   go_ret
   exact ⟨si_,by repeat (first|exact Drawn0.refl _|apply Drawn0.step)⟩

def impl_textOk.l0:Nat→ByteArray→Int→Option (Bool)
 | 0,_,_=>none
 | k+1,x0,x3=>if x3 < (x0.size:Int) then (if 0≤x3 then (if (bt x0 x3) < 97 then (some false) else (if (bt x0 x3) > 100 then (some false) else (impl_textOk.l0 k x0 (wrap64 (x3+1))))) else (none)) else (some true)
def impl_textOk.f (k:Nat) (a0:ByteArray):Option (Bool):=if (a0.size:Int) > 4 then (some false) else (impl_textOk.l0 k a0 0)
theorem impl_textOk.mono_l:∀ k,(∀ y0 y1,LeO (impl_textOk.l0 k y0 y1) (impl_textOk.l0 (k+1) y0 y1))
 | 0=>fun _ _ r h=>by simp [impl_textOk.l0] at h
 | k+1=>by
  have ih0:=impl_textOk.mono_l k
  ·intro y0 y1
   unfold impl_textOk.l0
   repeat' first
   | (with_reducible exact ih0 _ _)
   | (with_reducible exact LeO.refl _)
   | (with_reducible exact LeO.none _)
   | (with_reducible refine LeO.ite ?_ ?_)
   | (with_reducible refine LeO.bind ?_ (fun _=>?_))
   | exact ih0 _ _
   | exact LeO.none _
   | refine LeO.ite ?_ ?_
   | refine LeO.bind ?_ (fun _=>?_)
theorem impl_textOk.mono:∀ a0 k,LeO (impl_textOk.f k a0) (impl_textOk.f (k+1) a0):=by
 intro a0 k
 have ih0:=impl_textOk.mono_l k
 unfold impl_textOk.f
 repeat' first
   | (with_reducible exact ih0 _ _)
   | (with_reducible exact LeO.refl _)
   | (with_reducible exact LeO.none _)
   | (with_reducible refine LeO.ite ?_ ?_)
   | (with_reducible refine LeO.bind ?_ (fun _=>?_))
   | exact ih0 _ _
   | exact LeO.none _
   | refine LeO.ite ?_ ?_
   | refine LeO.bind ?_ (fun _=>?_)
theorem impl_textOk.calls (k:Nat) (a0:ByteArray) (r:Bool) (w:World) (h:impl_textOk.f k a0=some r) :
  Calls Tryd.prog 129 #[.string a0] w fun e w'=>e=.returned (.bool r)∧Drawn0 w w':=by
 unfold impl_textOk.f at h
 have H:=h
 clear h
 by_cases c2:(a0.size:Int) > 4
 ·rw [if_pos c2] at H
  have c2b0:decide (4 < (a0.size:Int))=true:=dt_ c2
  have c2b1:decide (4 < a0.size)=true:=dt_ (by omega)
  clear c2
  obtain rfl:=sj_ H
  go_enter Tryd.func129,Tryd.ntmps129
  go_wp2
  go_ret
  exact ⟨si_,by repeat (first|exact Drawn0.refl _|apply Drawn0.step)⟩
 ·rw [if_neg c2] at H
  have c2b0:decide (4 < (a0.size:Int))=false:=df_ c2
  have c2b1:decide (4 < a0.size)=false:=df_ (by omega)
  clear c2
  have H':=a_ H
  clear H
  go_enter Tryd.func129,Tryd.ntmps129
  go_wp2
  go_loopg [3] k (fun kq v3 w'=>∃ (x3_1:Int),v3=.int .i64 x3_1∧Aside0 (impl_textOk.l0 kq a0 x3_1=some r)∧Aside0 (kq≤k)∧Drawn0 w w')
  case atStart=>exact ⟨(0),(si_),H',⟨Nat.le_refl _⟩,by repeat (first|exact Drawn0.refl _|apply Drawn0.step)⟩
  case round =>
   clear H'
   try clear c1
   try clear c2
   try clear c2b0
   try clear c2b1
   try clear p2
   obtain ⟨x3_1,rfl,HA,HK1,⟨m1,rfl⟩⟩:=hrel
   cases gk with
   | zero=>exact absurd HA.out (by simp [impl_textOk.l0])
   | succ k1 =>
    have H:=HA.out
    clear HA
    simp only [impl_textOk.l0] at H
    by_cases c3:x3_1 < (a0.size:Int)
    ·rw [if_pos c3] at H
     have c3b0:decide (x3_1 < (a0.size:Int))=true:=dt_ c3
     clear c3
     by_cases c4:0≤x3_1
     ·rw [if_pos c4] at H
      have c4b0:decide (0≤x3_1)=true:=dt_ c4
      clear c4
      by_cases c6:(bt a0 x3_1) < 97
      ·rw [if_pos c6] at H
       have c6b0:decide ((bt a0 x3_1) < 97)=true:=dt_ c6
       clear c6
       obtain rfl:=sj_ H
       have p5:0≤(x3_1:Int):=od_
       have q5:x3_1 < (a0.size:Int):=od_
       have hx5:=bt_at a0 x3_1
       replace p5:=eq_true p5
       replace q5:=eq_true q5
       go_wp2
       go_ret
       exact ⟨si_,by repeat (first|exact Drawn0.refl _|apply Drawn0.step)⟩
      ·rw [if_neg c6] at H
       have c6b0:decide ((bt a0 x3_1) < 97)=false:=df_ c6
       clear c6
       by_cases c8:(bt a0 x3_1) > 100
       ·rw [if_pos c8] at H
        have c8b0:decide (100 < (bt a0 x3_1))=true:=dt_ c8
        clear c8
        obtain rfl:=sj_ H
        have p5:0≤(x3_1:Int):=od_
        have q5:x3_1 < (a0.size:Int):=od_
        have hx5:=bt_at a0 x3_1
        replace p5:=eq_true p5
        replace q5:=eq_true q5
        have p7:0≤(x3_1:Int):=od_
        have q7:x3_1 < (a0.size:Int):=od_
        have hx7:=bt_at a0 x3_1
        replace p7:=eq_true p7
        replace q7:=eq_true q7
        go_wp2
        go_ret
        exact ⟨si_,by repeat (first|exact Drawn0.refl _|apply Drawn0.step)⟩
       ·rw [if_neg c8] at H
        have c8b0:decide (100 < (bt a0 x3_1))=false:=df_ c8
        clear c8
        have H':=a_ H
        clear H
        have p5:0≤(x3_1:Int):=od_
        have q5:x3_1 < (a0.size:Int):=od_
        have hx5:=bt_at a0 x3_1
        replace p5:=eq_true p5
        replace q5:=eq_true q5
        have p7:0≤(x3_1:Int):=od_
        have q7:x3_1 < (a0.size:Int):=od_
        have hx7:=bt_at a0 x3_1
        replace p7:=eq_true p7
        replace q7:=eq_true q7
        go_wp2
        go_roundg k1
        case measure=>have:=HK1.out;omega
        case rel=>exact ⟨(wrap64 (x3_1+1)),(si_),H',⟨by have:=HK1.out;omega⟩,by repeat (first|exact Drawn0.refl _|apply Drawn0.step)⟩
     ·rw [if_neg c4] at H
      exact absurd H (by simp)
    ·rw [if_neg c3] at H
     have c3b0:decide (x3_1 < (a0.size:Int))=false:=df_ c3
     clear c3
     obtain rfl:=sj_ H
     go_wp2
     go_ret
     exact ⟨si_,by repeat (first|exact Drawn0.refl _|apply Drawn0.step)⟩


end Go.Proofs.YtdpklbomhdpimaaDoor.P
namespace Go.Proofs.YtdpklbomhdpimaaDoor.P
open Go.RowKit Go.Proofs.YtdpklbomhdpimaaDoorW.PrintWords Go.Proofs.YtdpklbomhdpimaaDoorW.PrintLast Go.Proofs.YtdpklbomhdpimaaDoorW.PrintMore
theorem quiet_d {P:Program} {f:FuncId} {args:Array Value} {w:World} {d n:Nat} {v:Value} (h:Calls P f args (w.drewN (d+n)) fun e w'=>e=.returned v∧Drawn0 (w.drewN (d+n)) w') :
  Calls P f args (w.drewN (d+n)) fun e w''=>e=.returned v∧∃ m,w''=w.drewN (d+m) :=
 h.mono fun _ _ ⟨he,⟨m,hm⟩⟩=>⟨he,n+m,by rw [hm,World.drewN_drewN,Nat.add_assoc]⟩
def impl_changeOf.f (k:Nat) (a0 a1 a2 a3:Int) (a4:ByteArray):Option Bool :=
 (impl_isMade.f a1).bind fun m=>if m=true then
  (if a0=1 then ((impl_placeOk.f a2 a3).bind fun p=>if p=true then impl_textOk.f k a4 else some false)
  else if a0=2 then (if a2=0 then (if a3=0 then impl_textOk.f k a4 else some false) else some false)
  else if a0=3 then ((impl_placeOk.f a2 a3).bind fun p=>if p=true then some (a4.toList.isEmpty) else some false)
  else some false) else some false
theorem impl_changeOf.mono (a0 a1 a2 a3:Int) (a4:ByteArray) (k:Nat):LeO (impl_changeOf.f k a0 a1 a2 a3 a4) (impl_changeOf.f (k+1) a0 a1 a2 a3 a4):=by
 unfold impl_changeOf.f
 repeat' first
   | (with_reducible exact impl_textOk.mono _ _)
   | (with_reducible exact LeO.refl _)
   | (with_reducible refine LeO.ite ?_ ?_)
   | (with_reducible refine LeO.bind ?_ (fun _=>?_))
def ChV (a0 a1 a2 a3:Int) (a4:ByteArray):Value :=
 if a0=1 then .iface 156 (.agg #[.int .i64 a1,.int .i64 a2,.int .i64 a3,.string a4])
 else if a0=2 then .iface 159 (.agg #[.int .i64 a1,.string a4])
 else .iface 161 (.agg #[.int .i64 a1,.int .i64 a2,.int .i64 a3])
def ChPost (w:World) (a0 a1 a2 a3:Int) (a4:ByteArray) (r:Bool) (e:Ending) (w':World):Prop :=
 ∃ v:Value,e=.returned (.tuple #[v,.bool r])∧(r=true→v=ChV a0 a1 a2 a3 a4)∧Below w.heap.size w w'
theorem below_box0 (w:World) (o:Obj):Below w.heap.size w (w.alloc o):=(Below.refl _ _).alloc (Nat.le_refl _) _
theorem changeOf_unmade (a0 a1 a2 a3:Int) (a4:ByteArray) (w:World) (hm:impl_isMade.f a1=some false) (hG:Glob w) :
  Calls Tryd.prog 92 #[.agg #[.int .i64 a0,.int .i64 a1,.int .i64 a2,.int .i64 a3,.string a4]] w (ChPost w a0 a1 a2 a3 a4 false):=by
 have hGa:Glob (w.alloc (.cells #[.int .i64 a0,.int .i64 a1,.int .i64 a2,.int .i64 a3,.string a4] 42)):=hG.below (below_box0 w _)
 have HG:=a_ hGa
 clear hGa hG
 have Hm:=a_ hm
 clear hm
 go_enter Tryd.func92,Tryd.ntmps92
 go_wp2_with (go_at_call 127;refine (impl_isMade.calls a1 _ _ Hm.out HG.out).mono ?_;rintro e w' ⟨rfl,⟨nd,rfl⟩⟩)
 go_ret2
 exact ⟨_,rfl,(fun h=>by cases h),by (with_reducible repeat (first|exact below_box0 w _|apply pw_below_drewN))⟩
theorem changeOf_make (k:Nat) (a0 a1 a2 a3:Int) (a4:ByteArray) (r:Bool) (w:World) (hm:impl_isMade.f a1=some true) (hp:impl_placeOk.f a2 a3=some true) (ht:impl_textOk.f k a4=some r) (h0:a0=1) (hG:Glob w) :
  Calls Tryd.prog 92 #[.agg #[.int .i64 a0,.int .i64 a1,.int .i64 a2,.int .i64 a3,.string a4]] w (ChPost w a0 a1 a2 a3 a4 r):=by
 have hGa:Glob (w.alloc (.cells #[.int .i64 a0,.int .i64 a1,.int .i64 a2,.int .i64 a3,.string a4] 42)):=hG.below (below_box0 w _)
 have HG:=a_ hGa
 clear hGa hG
 subst h0
 have Hm:=a_ hm
 have Hp:=a_ hp
 have Ht:=a_ ht
 clear hm hp ht
 go_enter Tryd.func92,Tryd.ntmps92
 go_wp2_with (go_at_call 127;refine (impl_isMade.calls a1 _ _ Hm.out HG.out).mono ?_;rintro e w' ⟨rfl,⟨nd,rfl⟩⟩)
 go_quiet ((first|(go_at_call 128;refine quiet_d (impl_placeOk.calls a2 a3 true _ Hp.out (by (with_reducible repeat (first|exact HG.out|apply Glob.drewN|apply Glob.drew)))))|(go_at_call 129;refine quiet_d (impl_textOk.calls k a4 r _ Ht.out))))
 go_wp2
 go_ret2
 exact ⟨_,rfl,fun _=>rfl,by (with_reducible repeat (first|exact below_box0 w _|apply pw_below_drewN))⟩
theorem changeOf_make_no (a0 a1 a2 a3:Int) (a4:ByteArray) (w:World) (hm:impl_isMade.f a1=some true) (hp:impl_placeOk.f a2 a3=some false) (h0:a0=1) (hG:Glob w) :
  Calls Tryd.prog 92 #[.agg #[.int .i64 a0,.int .i64 a1,.int .i64 a2,.int .i64 a3,.string a4]] w (ChPost w a0 a1 a2 a3 a4 false):=by
 have hGa:Glob (w.alloc (.cells #[.int .i64 a0,.int .i64 a1,.int .i64 a2,.int .i64 a3,.string a4] 42)):=hG.below (below_box0 w _)
 have HG:=a_ hGa
 clear hGa hG
 subst h0
 have Hm:=a_ hm
 have Hp:=a_ hp
 clear hm hp
 go_enter Tryd.func92,Tryd.ntmps92
 go_wp2_with (go_at_call 127;refine (impl_isMade.calls a1 _ _ Hm.out HG.out).mono ?_;rintro e w' ⟨rfl,⟨nd,rfl⟩⟩)
 go_quiet ((go_at_call 128;refine quiet_d (impl_placeOk.calls a2 a3 false _ Hp.out (by (with_reducible repeat (first|exact HG.out|apply Glob.drewN|apply Glob.drew))))))
 go_wp2
 go_ret2
 exact ⟨_,rfl,(fun h=>by cases h),by (with_reducible repeat (first|exact below_box0 w _|apply pw_below_drewN))⟩
theorem changeOf_text (k:Nat) (a0 a1 a2 a3:Int) (a4:ByteArray) (r:Bool) (w:World) (hm:impl_isMade.f a1=some true) (h2:a2=0) (h3:a3=0) (ht:impl_textOk.f k a4=some r) (h0:a0=2) (hG:Glob w) :
  Calls Tryd.prog 92 #[.agg #[.int .i64 a0,.int .i64 a1,.int .i64 a2,.int .i64 a3,.string a4]] w (ChPost w a0 a1 a2 a3 a4 r):=by
 have hGa:Glob (w.alloc (.cells #[.int .i64 a0,.int .i64 a1,.int .i64 a2,.int .i64 a3,.string a4] 42)):=hG.below (below_box0 w _)
 have HG:=a_ hGa
 clear hGa hG
 subst h0 h2 h3
 have Hm:=a_ hm
 have Ht:=a_ ht
 clear hm ht
 go_enter Tryd.func92,Tryd.ntmps92
 go_wp2_with (go_at_call 127;refine (impl_isMade.calls a1 _ _ Hm.out HG.out).mono ?_;rintro e w' ⟨rfl,⟨nd,rfl⟩⟩)
 go_quiet ((go_at_call 129;refine quiet_d (impl_textOk.calls k a4 r _ Ht.out)))
 go_wp2
 go_ret2
 exact ⟨_,rfl,fun _=>rfl,by (with_reducible repeat (first|exact below_box0 w _|apply pw_below_drewN))⟩
theorem changeOf_text_no2 (a0 a1 a2 a3:Int) (a4:ByteArray) (w:World) (hm:impl_isMade.f a1=some true) (h2:a2≠0) (h0:a0=2) (hG:Glob w) :
  Calls Tryd.prog 92 #[.agg #[.int .i64 a0,.int .i64 a1,.int .i64 a2,.int .i64 a3,.string a4]] w (ChPost w a0 a1 a2 a3 a4 false):=by
 have hGa:Glob (w.alloc (.cells #[.int .i64 a0,.int .i64 a1,.int .i64 a2,.int .i64 a3,.string a4] 42)):=hG.below (below_box0 w _)
 have HG:=a_ hGa
 clear hGa hG
 subst h0
 have e2:(a2==0)=false:=beq_eq_false_iff_ne.2 h2
 clear h2
 have Hm:=a_ hm
 clear hm
 go_enter Tryd.func92,Tryd.ntmps92
 go_wp2_with (go_at_call 127;refine (impl_isMade.calls a1 _ _ Hm.out HG.out).mono ?_;rintro e w' ⟨rfl,⟨nd,rfl⟩⟩)
 go_quiet (fail)
 go_wp2
 go_ret2
 exact ⟨_,rfl,(fun h=>by cases h),by (with_reducible repeat (first|exact below_box0 w _|apply pw_below_drewN))⟩
theorem changeOf_text_no3 (a0 a1 a2 a3:Int) (a4:ByteArray) (w:World) (hm:impl_isMade.f a1=some true) (h2:a2=0) (h3:a3≠0) (h0:a0=2) (hG:Glob w) :
  Calls Tryd.prog 92 #[.agg #[.int .i64 a0,.int .i64 a1,.int .i64 a2,.int .i64 a3,.string a4]] w (ChPost w a0 a1 a2 a3 a4 false):=by
 have hGa:Glob (w.alloc (.cells #[.int .i64 a0,.int .i64 a1,.int .i64 a2,.int .i64 a3,.string a4] 42)):=hG.below (below_box0 w _)
 have HG:=a_ hGa
 clear hGa hG
 subst h0 h2
 have e3:(a3==0)=false:=beq_eq_false_iff_ne.2 h3
 clear h3
 have Hm:=a_ hm
 clear hm
 go_enter Tryd.func92,Tryd.ntmps92
 go_wp2_with (go_at_call 127;refine (impl_isMade.calls a1 _ _ Hm.out HG.out).mono ?_;rintro e w' ⟨rfl,⟨nd,rfl⟩⟩)
 go_quiet (fail)
 go_wp2
 go_ret2
 exact ⟨_,rfl,(fun h=>by cases h),by (with_reducible repeat (first|exact below_box0 w _|apply pw_below_drewN))⟩
theorem changeOf_move (a0 a1 a2 a3:Int) (a4:ByteArray) (w:World) (hm:impl_isMade.f a1=some true) (hp:impl_placeOk.f a2 a3=some true) (h0:a0=3) (hG:Glob w) :
  Calls Tryd.prog 92 #[.agg #[.int .i64 a0,.int .i64 a1,.int .i64 a2,.int .i64 a3,.string a4]] w (ChPost w a0 a1 a2 a3 a4 a4.toList.isEmpty):=by
 have hGa:Glob (w.alloc (.cells #[.int .i64 a0,.int .i64 a1,.int .i64 a2,.int .i64 a3,.string a4] 42)):=hG.below (below_box0 w _)
 have HG:=a_ hGa
 clear hGa hG
 subst h0
 have Hm:=a_ hm
 have Hp:=a_ hp
 clear hm hp
 go_enter Tryd.func92,Tryd.ntmps92
 go_wp2_with (go_at_call 127;refine (impl_isMade.calls a1 _ _ Hm.out HG.out).mono ?_;rintro e w' ⟨rfl,⟨nd,rfl⟩⟩)
 go_quiet ((go_at_call 128;refine quiet_d (impl_placeOk.calls a2 a3 true _ Hp.out (by (with_reducible repeat (first|exact HG.out|apply Glob.drewN|apply Glob.drew))))))
 go_wp2
 go_ret2
 exact ⟨_,rfl,fun _=>rfl,by (with_reducible repeat (first|exact below_box0 w _|apply pw_below_drewN))⟩
theorem changeOf_move_no (a0 a1 a2 a3:Int) (a4:ByteArray) (w:World) (hm:impl_isMade.f a1=some true) (hp:impl_placeOk.f a2 a3=some false) (h0:a0=3) (hG:Glob w) :
  Calls Tryd.prog 92 #[.agg #[.int .i64 a0,.int .i64 a1,.int .i64 a2,.int .i64 a3,.string a4]] w (ChPost w a0 a1 a2 a3 a4 false):=by
 have hGa:Glob (w.alloc (.cells #[.int .i64 a0,.int .i64 a1,.int .i64 a2,.int .i64 a3,.string a4] 42)):=hG.below (below_box0 w _)
 have HG:=a_ hGa
 clear hGa hG
 subst h0
 have Hm:=a_ hm
 have Hp:=a_ hp
 clear hm hp
 go_enter Tryd.func92,Tryd.ntmps92
 go_wp2_with (go_at_call 127;refine (impl_isMade.calls a1 _ _ Hm.out HG.out).mono ?_;rintro e w' ⟨rfl,⟨nd,rfl⟩⟩)
 go_quiet ((go_at_call 128;refine quiet_d (impl_placeOk.calls a2 a3 false _ Hp.out (by (with_reducible repeat (first|exact HG.out|apply Glob.drewN|apply Glob.drew))))))
 go_wp2
 go_ret2
 exact ⟨_,rfl,(fun h=>by cases h),by (with_reducible repeat (first|exact below_box0 w _|apply pw_below_drewN))⟩
theorem changeOf_kind (a0 a1 a2 a3:Int) (a4:ByteArray) (w:World) (hm:impl_isMade.f a1=some true) (h1:a0≠1) (h2:a0≠2) (h3:a0≠3) (hG:Glob w) :
  Calls Tryd.prog 92 #[.agg #[.int .i64 a0,.int .i64 a1,.int .i64 a2,.int .i64 a3,.string a4]] w (ChPost w a0 a1 a2 a3 a4 false):=by
 have hGa:Glob (w.alloc (.cells #[.int .i64 a0,.int .i64 a1,.int .i64 a2,.int .i64 a3,.string a4] 42)):=hG.below (below_box0 w _)
 have HG:=a_ hGa
 clear hGa hG
 have e1:(a0==1)=false:=beq_eq_false_iff_ne.2 h1
 have e2:(a0==2)=false:=beq_eq_false_iff_ne.2 h2
 have e3:(a0==3)=false:=beq_eq_false_iff_ne.2 h3
 clear h1 h2 h3
 have Hm:=a_ hm
 clear hm
 go_enter Tryd.func92,Tryd.ntmps92
 go_wp2_with (go_at_call 127;refine (impl_isMade.calls a1 _ _ Hm.out HG.out).mono ?_;rintro e w' ⟨rfl,⟨nd,rfl⟩⟩)
 go_ret2
 exact ⟨_,rfl,(fun h=>by cases h),by (with_reducible repeat (first|exact below_box0 w _|apply pw_below_drewN))⟩
theorem impl_changeOf.calls (k:Nat) (a0 a1 a2 a3:Int) (a4:ByteArray) (r:Bool) (w:World) (h:impl_changeOf.f k a0 a1 a2 a3 a4=some r) (hG:Glob w) :
  Calls Tryd.prog 92 #[.agg #[.int .i64 a0,.int .i64 a1,.int .i64 a2,.int .i64 a3,.string a4]] w (ChPost w a0 a1 a2 a3 a4 r):=by
 unfold impl_changeOf.f at h
 obtain ⟨m,hm,h⟩:=Option.bind_eq_some_iff.1 h
 cases m with
 | false =>
  simp only [Bool.false_eq_true,if_false,Option.some.injEq] at h
  subst h
  exact changeOf_unmade a0 a1 a2 a3 a4 w hm hG
 | true =>
  simp only [if_true] at h
  by_cases h1:a0=1
  ·rw [if_pos h1] at h
   obtain ⟨p,hp,h⟩:=Option.bind_eq_some_iff.1 h
   cases p with
   | false =>
    simp only [Bool.false_eq_true,if_false,Option.some.injEq] at h
    subst h
    exact changeOf_make_no a0 a1 a2 a3 a4 w hm hp h1 hG
   | true =>
    simp only [if_true] at h
    exact changeOf_make k a0 a1 a2 a3 a4 r w hm hp h h1 hG
  ·rw [if_neg h1] at h
   by_cases h2:a0=2
   ·rw [if_pos h2] at h
    by_cases g2:a2=0
    ·rw [if_pos g2] at h
     by_cases g3:a3=0
     ·rw [if_pos g3] at h
      exact changeOf_text k a0 a1 a2 a3 a4 r w hm g2 g3 h h2 hG
     ·rw [if_neg g3] at h
      simp only [Option.some.injEq] at h
      subst h
      exact changeOf_text_no3 a0 a1 a2 a3 a4 w hm g2 g3 h2 hG
    ·rw [if_neg g2] at h
     simp only [Option.some.injEq] at h
     subst h
     exact changeOf_text_no2 a0 a1 a2 a3 a4 w hm g2 h2 hG
   ·rw [if_neg h2] at h
    by_cases h3:a0=3
    ·rw [if_pos h3] at h
     obtain ⟨p,hp,h⟩:=Option.bind_eq_some_iff.1 h
     cases p with
     | false =>
      simp only [Bool.false_eq_true,if_false,Option.some.injEq] at h
      subst h
      exact changeOf_move_no a0 a1 a2 a3 a4 w hm hp h3 hG
     | true =>
      simp only [if_true,Option.some.injEq] at h
      subst h
      exact changeOf_move a0 a1 a2 a3 a4 w hm hp h3 hG
    ·rw [if_neg h3] at h
     simp only [Option.some.injEq] at h
     subst h
     exact changeOf_kind a0 a1 a2 a3 a4 w hm h1 h2 h3 hG
def impl_OpOk.f (k:Nat) (a0 a1 a2 a3:Int) (a4:ByteArray):Option Bool:=impl_changeOf.f k a0 a1 a2 a3 a4
theorem impl_OpOk.mono (a0 a1 a2 a3:Int) (a4:ByteArray) (k:Nat):LeO (impl_OpOk.f k a0 a1 a2 a3 a4) (impl_OpOk.f (k+1) a0 a1 a2 a3 a4):=impl_changeOf.mono a0 a1 a2 a3 a4 k
theorem impl_OpOk.calls (k:Nat) (a0_0 a0_1 a0_2 a0_3:Int) (a0_4:ByteArray) (r:Bool) (w:World) (h:impl_OpOk.f k a0_0 a0_1 a0_2 a0_3 a0_4=some r) (hG:Glob w) :
  Calls Tryd.prog 116 #[.agg #[.int .i64 a0_0,.int .i64 a0_1,.int .i64 a0_2,.int .i64 a0_3,.string a0_4]] w fun e w'=>e=.returned (.bool r)∧Below w.heap.size w w':=by
 have hGa:Glob (w.alloc (.cells #[.int .i64 a0_0,.int .i64 a0_1,.int .i64 a0_2,.int .i64 a0_3,.string a0_4] 42)):=hG.below (below_box0 w _)
 have HG:=a_ hGa
 have HH:=a_ h
 clear hGa hG h
 have hu:=Tryd.underlying42
 go_enter Tryd.func116,Tryd.ntmps116
 go_wp2_with (go_at_call 92;refine (impl_changeOf.calls k a0_0 a0_1 a0_2 a0_3 a0_4 r _ HH.out HG.out).mono ?_;rintro e w1 ⟨v,rfl,_,hb⟩;have HB:=a_ hb;clear hb)
 go_ret
 exact ⟨rfl,(below_box0 w _).trans (HB.out.mono (by simp))⟩
end Go.Proofs.YtdpklbomhdpimaaDoor.P
namespace Go.Proofs.YtdpklbomhdpimaaDoor.P
open Go.RowKit Go.Proofs.YtdpklbomhdpimaaDoorW.PrintWords Go.Proofs.YtdpklbomhdpimaaDoorW.PrintLast
def impl_EntryOk.f (k:Nat) (a0_0:Int) (a0_1:Int) (a0_2:Int) (a0_3:Int) (a0_4:Int) (a0_5:Int) (a0_6:ByteArray):Option (Bool):=(impl_whoOk.f a0_0).bind fun t405=>(if t405=true then (if a0_1 < 1 then (some false) else (if a0_1 > 40 then (some false) else ((impl_OpOk.f k a0_2 a0_3 a0_4 a0_5 a0_6).bind fun t406=>(if t406=true then ((impl_RowWho.f a0_3).bind fun bt407=>(if a0_2=1 then (some (bt407.1==a0_0)) else (some true))) else (some false))))) else (some false))
theorem impl_EntryOk.mono:∀ a0 a1 a2 a3 a4 a5 a6 k,LeO (impl_EntryOk.f k a0 a1 a2 a3 a4 a5 a6) (impl_EntryOk.f (k+1) a0 a1 a2 a3 a4 a5 a6):=by
 intro a0 a1 a2 a3 a4 a5 a6 k
 unfold impl_EntryOk.f
 repeat' first
   | (with_reducible exact impl_OpOk.mono _ _ _ _ _ _)
   | (with_reducible exact LeO.refl _)
   | (with_reducible exact LeO.none _)
   | (with_reducible refine LeO.ite ?_ ?_)
   | (with_reducible refine LeO.bind ?_ (fun _=>?_))
   | exact impl_OpOk.mono _ _ _ _ _ _
   | exact LeO.none _
   | refine LeO.ite ?_ ?_
   | refine LeO.bind ?_ (fun _=>?_)
theorem impl_EntryOk.calls (k:Nat) (a0_0:Int) (a0_1:Int) (a0_2:Int) (a0_3:Int) (a0_4:Int) (a0_5:Int) (a0_6:ByteArray) (r:Bool) (w:World) (h:impl_EntryOk.f k a0_0 a0_1 a0_2 a0_3 a0_4 a0_5 a0_6=some r) (hG:Glob w) :
  Calls Tryd.prog 78 #[.agg #[.int .i64 a0_0,.int .i64 a0_1,.int .i64 a0_2,.int .i64 a0_3,.int .i64 a0_4,.int .i64 a0_5,.string a0_6]] w fun e w'=>e=.returned (.bool r)∧Below w.heap.size w w':=by
 have hu44:=Tryd.underlying44
 have hu42:=Tryd.underlying42
 have HB:=a_ (Below.refl w.heap.size w)
 have HG:=a_ hG
 clear hG
 unfold impl_EntryOk.f at h
 have H:=h
 clear h
 replace H:=bs_ H
 obtain ⟨t405,A20,H⟩:=H
 try dsimp only at H
 have A2:=a_ A20
 clear A20
 by_cases c3:t405=true
 ·subst c3
  have H1:(if a0_1 < 1 then (some false) else (if a0_1 > 40 then (some false) else ((impl_OpOk.f k a0_2 a0_3 a0_4 a0_5 a0_6).bind fun t406=>(if t406=true then ((impl_RowWho.f a0_3).bind fun bt407=>(if a0_2=1 then (some (bt407.1==a0_0)) else (some true))) else (some false)))))=some r:=by rw [if_pos rfl] at H;exact H
  clear H
  have H:=H1
  clear H1
  by_cases c4:a0_1 < 1
  ·rw [if_pos c4] at H
   have c4b0:decide (a0_1 < 1)=true:=dt_ c4
   clear c4
   obtain rfl:=sj_ H
   go_enter Tryd.func78,Tryd.ntmps78
   go_wp2_with (first|((with_reducible refine gD_ (N:=1) rfl ?_);refine bx_ 1 (#[.int .i64 a0_0,.int .i64 a0_1,.int .i64 a0_2,.int .i64 a0_3,.int .i64 a0_4,.int .i64 a0_5,.string a0_6]) 44 ?_;intro gb404 hg w5 hbox hb;have n0_:=a_ (bS_ (bel_) hb);have n1_:=a_ (hbox);have n2_:=a_ ((by rw [hg];exact (below_size (bel_)):w.heap.size≤gb404));have n3_:=a_ ((by rw [hg];exact (below_size (bel_)):w.heap.size≤gb404));clear HB;have HB:=n0_;have BK404:=n1_;have GW404:=n2_;have GE404:=n3_;clear n0_ n1_ n2_ n3_;clear hb hbox hg;have Z6_0:=cz_ BK404.out 0 (.int .i64 a0_0);have Z6_1:=cz_ BK404.out 1 (.int .i64 a0_1);have Z6_2:=cz_ BK404.out 2 (.int .i64 a0_2);have Z6_3:=cz_ BK404.out 3 (.int .i64 a0_3);have Z6_4:=cz_ BK404.out 4 (.int .i64 a0_4);have Z6_5:=cz_ BK404.out 5 (.int .i64 a0_5);have Z6_6:=cz_ BK404.out 6 (.string a0_6);have Y6_0:=bF_ BK404.out 0;have Y6_1:=bF_ BK404.out 1;have Y6_2:=bF_ BK404.out 2;have Y6_3:=bF_ BK404.out 3;have Y6_4:=bF_ BK404.out 4;have Y6_5:=bF_ BK404.out 5;have Y6_6:=bF_ BK404.out 6)|((with_reducible refine gC_ (f:=104) rfl ?_);refine gl_ 7 Tryd.func104 #[.int .i64 a0_0] ?_;(with_reducible refine (impl_whoOk.calls a0_0 true _ A2.out).mono ?_);rintro e w' ⟨rfl,⟨nd,rfl⟩⟩;refine ⟨_,rfl,?_⟩))
   go_ret
   exact ⟨fi_,bel_⟩
  ·rw [if_neg c4] at H
   have c4b0:decide (a0_1 < 1)=false:=df_ c4
   clear c4
   by_cases c7:a0_1 > 40
   ·rw [if_pos c7] at H
    have c7b0:decide (40 < a0_1)=true:=dt_ c7
    clear c7
    obtain rfl:=sj_ H
    go_enter Tryd.func78,Tryd.ntmps78
    go_wp2_with (first|((with_reducible refine gD_ (N:=1) rfl ?_);refine bx_ 1 (#[.int .i64 a0_0,.int .i64 a0_1,.int .i64 a0_2,.int .i64 a0_3,.int .i64 a0_4,.int .i64 a0_5,.string a0_6]) 44 ?_;intro gb404 hg w8 hbox hb;have n0_:=a_ (bS_ (bel_) hb);have n1_:=a_ (hbox);have n2_:=a_ ((by rw [hg];exact (below_size (bel_)):w.heap.size≤gb404));have n3_:=a_ ((by rw [hg];exact (below_size (bel_)):w.heap.size≤gb404));clear HB;have HB:=n0_;have BK404:=n1_;have GW404:=n2_;have GE404:=n3_;clear n0_ n1_ n2_ n3_;clear hb hbox hg;have Z9_0:=cz_ BK404.out 0 (.int .i64 a0_0);have Z9_1:=cz_ BK404.out 1 (.int .i64 a0_1);have Z9_2:=cz_ BK404.out 2 (.int .i64 a0_2);have Z9_3:=cz_ BK404.out 3 (.int .i64 a0_3);have Z9_4:=cz_ BK404.out 4 (.int .i64 a0_4);have Z9_5:=cz_ BK404.out 5 (.int .i64 a0_5);have Z9_6:=cz_ BK404.out 6 (.string a0_6);have Y9_0:=bF_ BK404.out 0;have Y9_1:=bF_ BK404.out 1;have Y9_2:=bF_ BK404.out 2;have Y9_3:=bF_ BK404.out 3;have Y9_4:=bF_ BK404.out 4;have Y9_5:=bF_ BK404.out 5;have Y9_6:=bF_ BK404.out 6)|((with_reducible refine gC_ (f:=104) rfl ?_);refine gl_ 7 Tryd.func104 #[.int .i64 a0_0] ?_;(with_reducible refine (impl_whoOk.calls a0_0 true _ A2.out).mono ?_);rintro e w' ⟨rfl,⟨nd,rfl⟩⟩;refine ⟨_,rfl,?_⟩))
    go_ret
    exact ⟨fi_,bel_⟩
   ·rw [if_neg c7] at H
    have c7b0:decide (40 < a0_1)=false:=df_ c7
    clear c7
    replace H:=bs_ H
    obtain ⟨t406,A100,H⟩:=H
    try dsimp only at H
    have A10:=a_ A100
    clear A100
    by_cases c11:t406=true
    ·subst c11
     have H1:((impl_RowWho.f a0_3).bind fun bt407=>(if a0_2=1 then (some (bt407.1==a0_0)) else (some true)))=some r:=by rw [if_pos rfl] at H;exact H
     clear H
     have H:=H1
     clear H1
     replace H:=bs_ H
     obtain ⟨⟨t407,t408⟩,A120,H⟩:=H
     try dsimp only at H
     have A12:=a_ A120
     clear A120
     by_cases c13:a0_2=1
     ·rw [if_pos c13] at H
      have c13b0:(a0_2==1)=true:=beq_iff_eq.mpr c13
      have c13b1:(a0_2 != 1)=false:=be_ c13
      clear c13
      obtain rfl:=sj_ H
      go_enter Tryd.func78,Tryd.ntmps78
      go_wp2_with (first|((with_reducible refine gD_ (N:=1) rfl ?_);refine bx_ 1 (#[.int .i64 a0_0,.int .i64 a0_1,.int .i64 a0_2,.int .i64 a0_3,.int .i64 a0_4,.int .i64 a0_5,.string a0_6]) 44 ?_;intro gb404 hg w14 hbox hb;have n0_:=a_ (bS_ (bel_) hb);have n1_:=a_ (hbox);have n2_:=a_ ((by rw [hg];exact (below_size (bel_)):w.heap.size≤gb404));have n3_:=a_ ((by rw [hg];exact (below_size (bel_)):w.heap.size≤gb404));clear HB;have HB:=n0_;have BK404:=n1_;have GW404:=n2_;have GE404:=n3_;clear n0_ n1_ n2_ n3_;clear hb hbox hg;have Z15_0:=cz_ BK404.out 0 (.int .i64 a0_0);have Z15_1:=cz_ BK404.out 1 (.int .i64 a0_1);have Z15_2:=cz_ BK404.out 2 (.int .i64 a0_2);have Z15_3:=cz_ BK404.out 3 (.int .i64 a0_3);have Z15_4:=cz_ BK404.out 4 (.int .i64 a0_4);have Z15_5:=cz_ BK404.out 5 (.int .i64 a0_5);have Z15_6:=cz_ BK404.out 6 (.string a0_6);have Y15_0:=bF_ BK404.out 0;have Y15_1:=bF_ BK404.out 1;have Y15_2:=bF_ BK404.out 2;have Y15_3:=bF_ BK404.out 3;have Y15_4:=bF_ BK404.out 4;have Y15_5:=bF_ BK404.out 5;have Y15_6:=bF_ BK404.out 6)|((with_reducible refine gC_ (f:=104) rfl ?_);refine gl_ 7 Tryd.func104 #[.int .i64 a0_0] ?_;(with_reducible refine (impl_whoOk.calls a0_0 true _ A2.out).mono ?_);rintro e w' ⟨rfl,⟨nd,rfl⟩⟩;refine ⟨_,rfl,?_⟩)|(go_at_call 116;(with_reducible refine (impl_OpOk.calls k a0_2 a0_3 a0_4 a0_5 a0_6 true _ A10.out ?side1).mono ?_);(case side1=>exact Glob.below HG.out (bel_));rintro e w16 ⟨rfl,hb⟩;replace HB:=a_ (bS_ (bel_) hb);replace BK404:=a_ (bb_ BK404.out hb);(try clear hb);have Z17_0:=cz_ BK404.out 0 (.int .i64 a0_0);have Z17_1:=cz_ BK404.out 1 (.int .i64 a0_1);have Z17_2:=cz_ BK404.out 2 (.int .i64 a0_2);have Z17_3:=cz_ BK404.out 3 (.int .i64 a0_3);have Z17_4:=cz_ BK404.out 4 (.int .i64 a0_4);have Z17_5:=cz_ BK404.out 5 (.int .i64 a0_5);have Z17_6:=cz_ BK404.out 6 (.string a0_6);have Y17_0:=bF_ BK404.out 0;have Y17_1:=bF_ BK404.out 1;have Y17_2:=bF_ BK404.out 2;have Y17_3:=bF_ BK404.out 3;have Y17_4:=bF_ BK404.out 4;have Y17_5:=bF_ BK404.out 5;have Y17_6:=bF_ BK404.out 6)|((with_reducible refine gC_ (f:=117) rfl ?_);refine gl_ 29 Tryd.func117 #[.int .i64 a0_3] ?_;(with_reducible refine (impl_RowWho.calls a0_3 t407 t408 _ A12.out ?side1).mono ?_);(case side1=>exact Glob.below HG.out (bel_));rintro e w' ⟨rfl,⟨nd,rfl⟩⟩;refine ⟨_,rfl,?_⟩))
      go_ret
      exact ⟨fi_,bel_⟩
     ·rw [if_neg c13] at H
      have c13b0:(a0_2==1)=false:=bn_ c13
      have c13b1:(a0_2 != 1)=true:=bne_iff_ne.mpr c13
      obtain rfl:=sj_ H
      go_enter Tryd.func78,Tryd.ntmps78
      go_wp2_with (first|((with_reducible refine gD_ (N:=1) rfl ?_);refine bx_ 1 (#[.int .i64 a0_0,.int .i64 a0_1,.int .i64 a0_2,.int .i64 a0_3,.int .i64 a0_4,.int .i64 a0_5,.string a0_6]) 44 ?_;intro gb404 hg w18 hbox hb;have n0_:=a_ (bS_ (bel_) hb);have n1_:=a_ (hbox);have n2_:=a_ ((by rw [hg];exact (below_size (bel_)):w.heap.size≤gb404));have n3_:=a_ ((by rw [hg];exact (below_size (bel_)):w.heap.size≤gb404));clear HB;have HB:=n0_;have BK404:=n1_;have GW404:=n2_;have GE404:=n3_;clear n0_ n1_ n2_ n3_;clear hb hbox hg;have Z19_0:=cz_ BK404.out 0 (.int .i64 a0_0);have Z19_1:=cz_ BK404.out 1 (.int .i64 a0_1);have Z19_2:=cz_ BK404.out 2 (.int .i64 a0_2);have Z19_3:=cz_ BK404.out 3 (.int .i64 a0_3);have Z19_4:=cz_ BK404.out 4 (.int .i64 a0_4);have Z19_5:=cz_ BK404.out 5 (.int .i64 a0_5);have Z19_6:=cz_ BK404.out 6 (.string a0_6);have Y19_0:=bF_ BK404.out 0;have Y19_1:=bF_ BK404.out 1;have Y19_2:=bF_ BK404.out 2;have Y19_3:=bF_ BK404.out 3;have Y19_4:=bF_ BK404.out 4;have Y19_5:=bF_ BK404.out 5;have Y19_6:=bF_ BK404.out 6)|((with_reducible refine gC_ (f:=104) rfl ?_);refine gl_ 7 Tryd.func104 #[.int .i64 a0_0] ?_;(with_reducible refine (impl_whoOk.calls a0_0 true _ A2.out).mono ?_);rintro e w' ⟨rfl,⟨nd,rfl⟩⟩;refine ⟨_,rfl,?_⟩)|(go_at_call 116;(with_reducible refine (impl_OpOk.calls k a0_2 a0_3 a0_4 a0_5 a0_6 true _ A10.out ?side1).mono ?_);(case side1=>exact Glob.below HG.out (bel_));rintro e w20 ⟨rfl,hb⟩;replace HB:=a_ (bS_ (bel_) hb);replace BK404:=a_ (bb_ BK404.out hb);(try clear hb);have Z21_0:=cz_ BK404.out 0 (.int .i64 a0_0);have Z21_1:=cz_ BK404.out 1 (.int .i64 a0_1);have Z21_2:=cz_ BK404.out 2 (.int .i64 a0_2);have Z21_3:=cz_ BK404.out 3 (.int .i64 a0_3);have Z21_4:=cz_ BK404.out 4 (.int .i64 a0_4);have Z21_5:=cz_ BK404.out 5 (.int .i64 a0_5);have Z21_6:=cz_ BK404.out 6 (.string a0_6);have Y21_0:=bF_ BK404.out 0;have Y21_1:=bF_ BK404.out 1;have Y21_2:=bF_ BK404.out 2;have Y21_3:=bF_ BK404.out 3;have Y21_4:=bF_ BK404.out 4;have Y21_5:=bF_ BK404.out 5;have Y21_6:=bF_ BK404.out 6)|((with_reducible refine gC_ (f:=117) rfl ?_);refine gl_ 29 Tryd.func117 #[.int .i64 a0_3] ?_;(with_reducible refine (impl_RowWho.calls a0_3 t407 t408 _ A12.out ?side1).mono ?_);(case side1=>exact Glob.below HG.out (bel_));rintro e w' ⟨rfl,⟨nd,rfl⟩⟩;refine ⟨_,rfl,?_⟩))
      go_ret
      exact ⟨fi_,bel_⟩
    ·replace c11:=Bool.eq_false_iff.mpr c11
     subst c11
     have H1:(some false)=some r:=by rw [if_neg (show ¬ (false=true) by decide)] at H;exact H
     clear H
     have H:=H1
     clear H1
     obtain rfl:=sj_ H
     go_enter Tryd.func78,Tryd.ntmps78
     go_wp2_with (first|((with_reducible refine gD_ (N:=1) rfl ?_);refine bx_ 1 (#[.int .i64 a0_0,.int .i64 a0_1,.int .i64 a0_2,.int .i64 a0_3,.int .i64 a0_4,.int .i64 a0_5,.string a0_6]) 44 ?_;intro gb404 hg w22 hbox hb;have n0_:=a_ (bS_ (bel_) hb);have n1_:=a_ (hbox);have n2_:=a_ ((by rw [hg];exact (below_size (bel_)):w.heap.size≤gb404));have n3_:=a_ ((by rw [hg];exact (below_size (bel_)):w.heap.size≤gb404));clear HB;have HB:=n0_;have BK404:=n1_;have GW404:=n2_;have GE404:=n3_;clear n0_ n1_ n2_ n3_;clear hb hbox hg;have Z23_0:=cz_ BK404.out 0 (.int .i64 a0_0);have Z23_1:=cz_ BK404.out 1 (.int .i64 a0_1);have Z23_2:=cz_ BK404.out 2 (.int .i64 a0_2);have Z23_3:=cz_ BK404.out 3 (.int .i64 a0_3);have Z23_4:=cz_ BK404.out 4 (.int .i64 a0_4);have Z23_5:=cz_ BK404.out 5 (.int .i64 a0_5);have Z23_6:=cz_ BK404.out 6 (.string a0_6);have Y23_0:=bF_ BK404.out 0;have Y23_1:=bF_ BK404.out 1;have Y23_2:=bF_ BK404.out 2;have Y23_3:=bF_ BK404.out 3;have Y23_4:=bF_ BK404.out 4;have Y23_5:=bF_ BK404.out 5;have Y23_6:=bF_ BK404.out 6)|((with_reducible refine gC_ (f:=104) rfl ?_);refine gl_ 7 Tryd.func104 #[.int .i64 a0_0] ?_;(with_reducible refine (impl_whoOk.calls a0_0 true _ A2.out).mono ?_);rintro e w' ⟨rfl,⟨nd,rfl⟩⟩;refine ⟨_,rfl,?_⟩)|(go_at_call 116;(with_reducible refine (impl_OpOk.calls k a0_2 a0_3 a0_4 a0_5 a0_6 false _ A10.out ?side1).mono ?_);(case side1=>exact Glob.below HG.out (bel_));rintro e w24 ⟨rfl,hb⟩;replace HB:=a_ (bS_ (bel_) hb);replace BK404:=a_ (bb_ BK404.out hb);(try clear hb)))
     go_ret
     exact ⟨fi_,bel_⟩
 ·replace c3:=Bool.eq_false_iff.mpr c3
  subst c3
  have H1:(some false)=some r:=by rw [if_neg (show ¬ (false=true) by decide)] at H;exact H
  clear H
  have H:=H1
  clear H1
  obtain rfl:=sj_ H
  go_enter Tryd.func78,Tryd.ntmps78
  go_wp2_with (first|((with_reducible refine gD_ (N:=1) rfl ?_);refine bx_ 1 (#[.int .i64 a0_0,.int .i64 a0_1,.int .i64 a0_2,.int .i64 a0_3,.int .i64 a0_4,.int .i64 a0_5,.string a0_6]) 44 ?_;intro gb404 hg w25 hbox hb;have n0_:=a_ (bS_ (bel_) hb);have n1_:=a_ (hbox);have n2_:=a_ ((by rw [hg];exact (below_size (bel_)):w.heap.size≤gb404));have n3_:=a_ ((by rw [hg];exact (below_size (bel_)):w.heap.size≤gb404));clear HB;have HB:=n0_;have BK404:=n1_;have GW404:=n2_;have GE404:=n3_;clear n0_ n1_ n2_ n3_;clear hb hbox hg;have Z26_0:=cz_ BK404.out 0 (.int .i64 a0_0);have Z26_1:=cz_ BK404.out 1 (.int .i64 a0_1);have Z26_2:=cz_ BK404.out 2 (.int .i64 a0_2);have Z26_3:=cz_ BK404.out 3 (.int .i64 a0_3);have Z26_4:=cz_ BK404.out 4 (.int .i64 a0_4);have Z26_5:=cz_ BK404.out 5 (.int .i64 a0_5);have Z26_6:=cz_ BK404.out 6 (.string a0_6);have Y26_0:=bF_ BK404.out 0;have Y26_1:=bF_ BK404.out 1;have Y26_2:=bF_ BK404.out 2;have Y26_3:=bF_ BK404.out 3;have Y26_4:=bF_ BK404.out 4;have Y26_5:=bF_ BK404.out 5;have Y26_6:=bF_ BK404.out 6)|((with_reducible refine gC_ (f:=104) rfl ?_);refine gl_ 7 Tryd.func104 #[.int .i64 a0_0] ?_;(with_reducible refine (impl_whoOk.calls a0_0 false _ A2.out).mono ?_);rintro e w' ⟨rfl,⟨nd,rfl⟩⟩;refine ⟨_,rfl,?_⟩))
  go_ret
  exact ⟨fi_,bel_⟩


end Go.Proofs.YtdpklbomhdpimaaDoor.P
namespace Go.Proofs.YtdpklbomhdpimaaDoor.P
open Go.RowKit Go.Maps Go.Proofs.YtdpklbomhdpimaaDoorW.PrintWords Go.Proofs.YtdpklbomhdpimaaDoorW.PrintLast Go.Proofs.YtdpklbomhdpimaaDoorW.PrintMore
theorem wf_small (x:Int) (h:-1000000≤x∧x≤1000000):(Lit.int .i64 x).wf=true:=by
 have e:wrap64 x=x:=by unfold wrap64;omega
 rw [←e]
 exact wrap64_wf _
theorem keyI:Keyed Tryd.prog 3:=int_keyed Tryd.underlying3
theorem zeroI (w:World):(zeroValue 3).run Tryd.prog w=.ok (.int .i64 0) w:=by kernel_rfl
def CntMap (w:World) (b:Nat) (c:Int→Int) (n:Nat):Prop :=
 ∃ D:DataW Unit,w.ownsMap Tryd.prog 3 (plainElem Tryd.prog 3) b n D∧∀ x,D.atKey (.int .i64 x) (.lit (.int .i64 0))=.lit (.int .i64 (c x))
def upd (c:Int→Int) (x:Int):Int→Int:=fun y=>if y=x then c x+1 else c y
theorem CntMap.alloc {w:World} {b:Nat} {c:Int→Int} {n:Nat} (h:CntMap w b c n) (o:Obj):CntMap (w.alloc o) b c n:=by
 obtain ⟨D,h1,h2⟩:=h
 exact ⟨D,h1.alloc o,h2⟩
theorem CntMap.drew {w:World} {b:Nat} {c:Int→Int} {n:Nat} (h:CntMap w b c n):CntMap w.drew b c n:=by
 obtain ⟨D,h1,h2⟩:=h
 exact ⟨D,h1.drew,h2⟩
theorem CntMap.grown {w w':World} {b:Nat} {c:Int→Int} {n:Nat} {row:Option Nat} (h:CntMap w b c n) (hg:w.grownBy w' row) (hne:some b≠row):CntMap w' b c n:=by
 obtain ⟨D,h1,h2⟩:=h
 exact ⟨D,h1.kept hg hne,h2⟩
theorem CntMap.below {w w':World} {b:Nat} {c:Int→Int} {n:Nat} (h:CntMap w b c n) (hb:Below w.heap.size w w'):CntMap w' b c n:=by
 obtain ⟨D,h1,h2⟩:=h
 refine ⟨D,?_,h2⟩
 have hl:=h1.lt
 obtain ⟨es,clock,e1,e2,e3,e4⟩:=h1
 exact ⟨es,clock,(hb.block b hl).trans e1,e2,e3,e4⟩
def AddPost (w:World) (b:Nat) (c:Int→Int) (x:Int) (n:Nat) (e:Ending) (w':World):Prop:=e=.returned (.int .i64 (c x+1))∧CntMap w' b (upd c x) (n+1)∧w.grownBy w' (some b)
theorem add_any (b:Nat) (c:Int→Int) (x:Int) (n:Nat) (w:World) (hx:0≤x∧x≤4) (hc:0≤c x∧c x≤1000) (hn:n≤1000) (hM:CntMap w b c n) :
  Calls Tryd.prog 87 #[.map (some b),.int .i64 x] w (AddPost w b c x n):=by
 obtain ⟨D,hown,hat⟩:=hM
 have hkey:keyOf Tryd.prog 3 (.int .i64 x)=some (.int .i64 x):=keyOf_int_mk Tryd.underlying3 (wf_small x (by omega))
 have HAT:=a_ (hat x)
 have HATS:=a_ hat
 clear hat
 have hwf:(Lit.int .i64 (c x+1)).wf=true:=wf_small _ (by omega)
 have HC:=a_ hc
 clear hc
 go_enter Tryd.func87,Tryd.ntmps87
 go_wp2_with (first
  | (at_lookup;refine wpList_lookup_own_int _ rfl (.tmp 5) (.tmp 6) 114 rfl 3 3 .i64 keyI Tryd.underlying114 Tryd.underlying3 (zeroI _) b n D rfl hown _ _ rfl hkey ?_;intro z hz hwz;have ez:z=c x:=(by have:=HAT.out.symm.trans hz;injection this with this;injection this with _ this;exact this.symm);subst ez;clear hz hwz;have hcb:=HC.out)
  | (at_mapUpdate;refine wpList_mapUpdate_own _ rfl _ _ _ 114 rfl 3 3 keyI Tryd.underlying114 _ b n D rfl hown (by unfold maxLen;omega) _ _ _ rfl rfl hkey _ [] (plainElem_int Tryd.underlying3 hwf) ?_;intro w1 hown1 hgrow1;have HG1:=a_ hgrow1;clear hgrow1;have HAT1:=a_ (atKey_put_same hown.isMap (k:=.int .i64 x) trivial (.lit (.int .i64 (c x+1))) (.lit (.int .i64 0))))
  | (at_lookup;refine wpList_lookup_own_int _ rfl (.tmp 9) (.tmp 10) 114 rfl 3 3 .i64 keyI Tryd.underlying114 Tryd.underlying3 (zeroI _) b (n+1) _ rfl hown1 _ _ rfl hkey ?_;intro z hz hwz;have ez:z=c x+1:=(by have:=HAT1.out.symm.trans hz;injection this with this;injection this with _ this;exact this.symm);subst ez;clear hz hwz))
 go_ret
 refine ⟨rfl,⟨_,hown1,fun y=>?_⟩,HG1.out⟩
 unfold upd
 by_cases hy:y=x
 ·rw [if_pos hy,hy]
  exact HAT1.out
 ·rw [if_neg hy,atKey_put_other (by intro e;injection e with _ e;exact hy e),HATS.out]
def cntE (l:List S44) (who:Int):Int:=(l.countP fun e=>e.f0==who:Nat)
theorem cntE_snoc (l:List S44) (e:S44):cntE (l++[e])=upd (cntE l) e.f0:=by
 funext y
 unfold cntE upd
 rw [List.countP_append]
 by_cases h:y=e.f0
 ·subst h
  simp
 ·have h':(e.f0==y)=false:=beq_eq_false_iff_ne.2 (fun q=>h q.symm)
  rw [if_neg h]
  simp [h']
theorem cntE_le (l:List S44) (who:Int):0≤cntE l who∧cntE l who≤l.length:=by
 unfold cntE
 have:=List.countP_le_length (p:=fun e:S44=>e.f0==who) (l:=l)
 omega
def impl_LogOk.go (k:Nat):List S44→List S44→Option Bool
 | _,[]=>some true
 | pre,e::rest=>(impl_EntryOk.f k e.f0 e.f1 e.f2.f0 e.f2.f1 e.f2.f2 e.f2.f3 e.f2.f4).bind fun t =>
   if t=true then (if cntE pre e.f0+1=e.f1 then impl_LogOk.go k (pre++[e]) rest else some false) else some false
def impl_LogOk.f (k:Nat) (l0:List S44):Option Bool:=if (l0.length:Int) > 40 then some false else impl_LogOk.go k [] l0
theorem impl_LogOk.mono_go (k:Nat):∀ (rest pre:List S44),LeO (impl_LogOk.go k pre rest) (impl_LogOk.go (k+1) pre rest)
 | [],_=>LeO.refl _
 | e::rest,pre=>by
  unfold impl_LogOk.go
  exact LeO.bind (impl_EntryOk.mono _ _ _ _ _ _ _ _) (fun _=>LeO.ite (LeO.ite (impl_LogOk.mono_go k rest _) (LeO.refl _)) (LeO.refl _))
theorem impl_LogOk.mono (l0:List S44) (k:Nat):LeO (impl_LogOk.f k l0) (impl_LogOk.f (k+1) l0):=by
 unfold impl_LogOk.f
 exact LeO.ite (LeO.refl _) (impl_LogOk.mono_go k _ _)
theorem entry_who {k:Nat} {a0 a1 a2 a3 a4 a5:Int} {a6:ByteArray} (h:impl_EntryOk.f k a0 a1 a2 a3 a4 a5 a6=some true):1≤a0∧a0≤3:=by
 unfold impl_EntryOk.f at h
 obtain ⟨t,ht,h⟩:=Option.bind_eq_some_iff.1 h
 cases t with
 | false=>simp at h
 | true =>
  unfold impl_whoOk.f at ht
  by_cases h1:a0≥1
  ·rw [if_pos h1] at ht
   exact ⟨h1,of_decide_eq_true (sj_ ht)⟩
  ·rw [if_neg h1] at ht
   cases ht
def LogRel (k:Nat) (l0:List S44) (r:Bool) (w:World) (i:Value) (wr:World):Prop :=
 ∃ j:Int,0≤j∧j≤l0.length∧i=.int .i64 j∧impl_LogOk.go k (l0.take j.toNat) (l0.drop j.toNat)=some r∧CntMap wr w.heap.size (cntE (l0.take j.toNat)) j.toNat∧Below w.heap.size w wr
theorem impl_LogOk.calls (k:Nat) (A0:Option Addr) (c0:Nat) (l0:List S44) (r:Bool) (w:World) (hr0:Kd.C k44 w A0 l0.length l0) (hc0:l0.length≤c0) (h:impl_LogOk.f k l0=some r) (hG:Glob w) :
  Calls Tryd.prog 42 #[.slice A0 l0.length c0] w fun e w'=>e=.returned (.bool r)∧Below w.heap.size w w':=by
 have HR0:=a_ hr0
 have HG:=a_ hG
 clear hr0 hG
 unfold impl_LogOk.f at h
 have hmm:=@run_makeMap Tryd.prog
 by_cases h40:(l0.length:Int) > 40
 ·rw [if_pos h40] at h
  obtain rfl:=sj_ h
  clear h hmm
  have hd:decide (40 < l0.length)=true:=dt_ (by omega)
  go_enter Tryd.func42,Tryd.ntmps42
  go_wp2
  go_ret
  exact ⟨rfl,Below.refl _ _⟩
 ·rw [if_neg h40] at h
  have HH:=a_ h
  clear h
  have hd:decide (40 < l0.length)=false:=df_ (by omega)
  have hlen:l0.length≤40:=by omega
  go_enter Tryd.func42,Tryd.ntmps42
  go_wp2
  have hM0:CntMap (w.alloc (.map #[] 0)) w.heap.size (cntE []) 0:=⟨.map [],World.ownsMap_made _ _ _ _,fun x=>rfl⟩
  have HM0:=a_ hM0
  clear hM0
  go_loopw [12] (fun i wr=>LogRel k l0 r w i wr) (fun i _=>l0.length - (intOf i).toNat)
  case atStart=>exact ⟨0,Int.le_refl _,by omega,rfl,HH.out,HM0.out,below_box0 w _⟩
  case round =>
   obtain ⟨j,hj0,hj,rfl,hgo,hM,hB⟩:=hrel
   have HM:=a_ hM
   have HB:=a_ hB
   have HGO:=a_ hgo
   clear hM hB hgo HH HM0
   by_cases hlt:j < l0.length
   ·have hd1:decide (j < (l0.length:Int))=true:=dt_ hlt
    obtain ⟨ad,e,hx0,hx1,hx2,hx3,hx4,hx5,hx6⟩:=at_T44 HR0.out j hj0 hlt
    cases e
    replace hx0:=(cb_ HB.out hx0 :)
    replace hx1:=(cb_ HB.out hx1 :)
    replace hx2:=(cb_ HB.out hx2 :)
    replace hx3:=(cb_ HB.out hx3 :)
    replace hx4:=(cb_ HB.out hx4 :)
    replace hx5:=(cb_ HB.out hx5 :)
    replace hx6:=(cb_ HB.out hx6 :)
    have hu:=Tryd.underlying44
    have hxe:rd_T44 l0 j=l0[j.toNat]'(by omega):=by
     unfold rd_T44
     rw [List.getD_eq_getElem?_getD,List.getElem?_eq_getElem (by omega)]
     rfl
    have htd:=List.drop_eq_getElem_cons (l:=l0) (i:=j.toNat) (by omega)
    have htk:=List.take_succ_eq_append_getElem (l:=l0) (i:=j.toNat) (by omega)
    rw [←hxe] at htd htk
    have hgo:=HGO.out
    rw [htd] at hgo
    clear HGO hxe
    generalize rd_T44 l0 j=x at hx0 hx1 hx2 hx3 hx4 hx5 hx6 htd htk hgo
    rw [show j.toNat+1=(j+1).toNat by omega] at htd htk hgo
    unfold impl_LogOk.go at hgo
    have hjb:j≤40:=by omega
    have p1:=eq_true hj0
    have q1:=eq_true hlt
    have hM1:=HM.out.alloc (.cells #[.int .i64 x.f0,.int .i64 x.f1,.int .i64 x.f2.f0,.int .i64 x.f2.f1,.int .i64 x.f2.f2,.int .i64 x.f2.f3,.string x.f2.f4] 44)
    have hcn:=cntE_le (l0.take j.toNat) x.f0
    have hcl:(l0.take j.toNat).length≤40:=by rw [List.length_take];omega
    have hsn:=cntE_snoc (l0.take j.toNat) x
    rw [←htk] at hsn
    rw [←htk] at hgo
    have HM1:=a_ hM1
    have HSN:=a_ hsn
    have HGO:=a_ hgo
    have HTD:=a_ htd
    have HCN:=a_ hcn
    have HCL:=a_ hcl
    have HJN:=a_ (show j.toNat≤1000∧0≤j∧j < l0.length from ⟨by omega,hj0,hlt⟩)
    have HB0:=HB
    have HL:=a_ (show w.heap.size < wr.heap.size from by obtain ⟨D,h1,_⟩:=HM.out;exact h1.lt)
    have HB1:=a_ (wA_ HB.out (.cells #[.int .i64 x.f0,.int .i64 x.f1,.int .i64 x.f2.f0,.int .i64 x.f2.f1,.int .i64 x.f2.f2,.int .i64 x.f2.f3,.string x.f2.f4] 44))
    clear hj0 hlt hM1 hcn hcl htd htk hsn hgo HM HB
    go_wp2
    have hwr:w.heap.size≤wr.heap.size∧w.heap.size < wr.heap.size:=by
     obtain ⟨D,h1,_⟩:=HM1.out
     have h2:=HB0.out.size
     exact ⟨h2,HL.out⟩
    have HW:=a_ hwr
    clear hwr
    obtain ⟨W1,hW1⟩:∃ W1,W1=wr.alloc (.cells #[.int .i64 x.f0,.int .i64 x.f1,.int .i64 x.f2.f0,.int .i64 x.f2.f1,.int .i64 x.f2.f2,.int .i64 x.f2.f3,.string x.f2.f4] 44):=⟨_,rfl⟩
    have hn0:W1.heap[wr.heap.size]?=some (.cells #[.int .i64 x.f0,.int .i64 x.f1,.int .i64 x.f2.f0,.int .i64 x.f2.f1,.int .i64 x.f2.f2,.int .i64 x.f2.f3,.string x.f2.f4] 44 (0,0)):=by rw [hW1];simpa using heap_alloc_new wr _
    have HN0:=a_ hn0
    rw [←hW1] at HM1 HB1 ⊢
    clear hW1 hx0 hx1 hx2 hx3 hx4 hx5 hx6 hn0
    generalize wr.heap.size=g at HN0 HW ⊢
    have hc0:W1.cell? ⟨g,0,none⟩=some (.int .i64 x.f0):=(bC_ HN0.out 0).trans rfl
    have hc1:W1.cell? ⟨g,1,none⟩=some (.int .i64 x.f1):=(bC_ HN0.out 1).trans rfl
    have hc2:W1.cell? ⟨g,2,none⟩=some (.int .i64 x.f2.f0):=(bC_ HN0.out 2).trans rfl
    have hc3:W1.cell? ⟨g,3,none⟩=some (.int .i64 x.f2.f1):=(bC_ HN0.out 3).trans rfl
    have hc4:W1.cell? ⟨g,4,none⟩=some (.int .i64 x.f2.f2):=(bC_ HN0.out 4).trans rfl
    have hc5:W1.cell? ⟨g,5,none⟩=some (.int .i64 x.f2.f3):=(bC_ HN0.out 5).trans rfl
    have hc6:W1.cell? ⟨g,6,none⟩=some (.string x.f2.f4):=(bC_ HN0.out 6).trans rfl
    have hgo:=HGO.out
    clear HGO
    obtain ⟨t,ht,hgo⟩:=Option.bind_eq_some_iff.1 hgo
    have HT:=a_ ht
    clear ht
    have HBd:=a_ (below_drew1 HB1.out)
    have HGd:=a_ (HG.out.below HBd.out)
    have HMd:=a_ HM1.out.drew
    have HNd:=a_ (bD_ HN0.out)
    have hwho:=fun (e:t=true)=>entry_who (k:=k) (e ▸ HT.out)
    clear HB1 HM1 HN0
    cases t with
    | false =>
     simp only [Bool.false_eq_true,if_false,Option.some.injEq] at hgo
     subst hgo
     clear hwho
     refine start_ (n:=12) (S:=fun w'=>w'.cell? ⟨g,0,none⟩=some (.int .i64 x.f0)∧w'.cell? ⟨g,1,none⟩=some (.int .i64 x.f1)∧w'.cell? ⟨g,2,none⟩=some (.int .i64 x.f2.f0)∧w'.cell? ⟨g,3,none⟩=some (.int .i64 x.f2.f1)∧w'.cell? ⟨g,4,none⟩=some (.int .i64 x.f2.f2)∧w'.cell? ⟨g,5,none⟩=some (.int .i64 x.f2.f3)∧w'.cell? ⟨g,6,none⟩=some (.string x.f2.f4)) (ds:=[]) #[false,false,false,false,false,false,false,false,false,false,false,false] (by kernel_rfl) rfl rfl ⟨(bC_ HNd.out 0).trans rfl,(bC_ HNd.out 1).trans rfl,(bC_ HNd.out 2).trans rfl,(bC_ HNd.out 3).trans rfl,(bC_ HNd.out 4).trans rfl,(bC_ HNd.out 5).trans rfl,(bC_ HNd.out 6).trans rfl⟩ (fun hHeld=>?_)
     refine take_ (i:=0) (N:=some 16) (v:=?_) (a':=?_) #[true,false,false,false,false,false,false,false,false,false,false,false] rfl rfl (by kernel_rfl) (fun _ _ _ h=>h) (Or.inl ⟨by rfl,?_⟩) hHeld ?_ ?_
     rotate_left
     ·rintro w' ⟨s0,s1,s2,s3,s4,s5,s6⟩
      go_simp
      with_reducible rfl
     rotate_left
     ·simp only [Act.put,List.setIfInBounds_toArray,List.set_cons_zero,List.set_cons_succ,i64_w,i32_w]
      rfl
     refine one_ (i:=1) (N:=some 17) #[true,true,false,false,false,false,false,false,false,false,false,false] rfl rfl (by kernel_rfl) (by decide) (fun K hK=>?_)
     refine goes_ Tryd.func78 (by kernel_rfl) rfl #[.agg #[.int .i64 x.f0,.int .i64 x.f1,.int .i64 x.f2.f0,.int .i64 x.f2.f1,.int .i64 x.f2.f2,.int .i64 x.f2.f3,.string x.f2.f4]] (by rfl) rfl rfl (by (try simp only [List.map_toArray,List.map_cons,List.map_nil]);first|done|rfl) ?_
     with_reducible refine (impl_EntryOk.calls k x.f0 x.f1 x.f2.f0 x.f2.f1 x.f2.f2 x.f2.f3 x.f2.f4 false _ HT.out HGd.out).mono ?_
     rintro e w2 ⟨rfl,hb⟩
     refine ⟨_,rfl,?_⟩
     have HB2:=a_ (bS_ HBd.out hb)
     have HN2:=a_ (blk_below HNd.out hb)
     clear hb
     refine hK.out _ _ ⟨(bC_ HN2.out 0).trans rfl,(bC_ HN2.out 1).trans rfl,(bC_ HN2.out 2).trans rfl,(bC_ HN2.out 3).trans rfl,(bC_ HN2.out 4).trans rfl,(bC_ HN2.out 5).trans rfl,(bC_ HN2.out 6).trans rfl⟩ (fun hHeld2=>?_)
     clear hK K
     refine no_ 17 ?_
     refine pure_ (i:=2) (N:=some 18) (v:=?_) (a':=?_) #[true,true,true,false,false,false,false,false,false,false,false,false] rfl rfl (by kernel_rfl) (fun _ _ _ h=>h) (Or.inl ⟨by rfl,?_⟩) ?_ ?_
     rotate_left
     ·intro w'
      go_simp
      with_reducible rfl
     rotate_left
     ·simp only [Act.put,List.setIfInBounds_toArray,List.set_cons_zero,List.set_cons_succ,i64_w,i32_w]
      rfl
     refine pure_ (i:=3) (N:=some 19) (v:=?_) (a':=?_) #[true,true,true,true,false,false,false,false,false,false,false,false] rfl rfl (by kernel_rfl) (fun _ _ _ h=>h) (Or.inl ⟨by rfl,?_⟩) ?_ ?_
     rotate_left
     ·intro w'
      go_simp
      with_reducible rfl
     rotate_left
     ·simp only [Act.put,List.setIfInBounds_toArray,List.set_cons_zero,List.set_cons_succ,i64_w,i32_w]
      rfl
     refine pure_ (i:=4) (N:=some 20) (v:=undef) (a':=?_) #[true,true,true,true,true,false,false,false,false,false,false,false] rfl rfl (by kernel_rfl) (fun _ _ _ h=>h) (Or.inr ⟨by rfl,rfl⟩) ?_ ?_
     rotate_left
     ·simp only [Act.put,List.setIfInBounds_toArray,List.set_cons_zero,List.set_cons_succ,i64_w,i32_w]
      rfl
     refine pure_ (i:=5) (N:=some 21) (v:=undef) (a':=?_) #[true,true,true,true,true,true,false,false,false,false,false,false] rfl rfl (by kernel_rfl) (fun _ _ _ h=>h) (Or.inr ⟨by rfl,rfl⟩) ?_ ?_
     rotate_left
     ·simp only [Act.put,List.setIfInBounds_toArray,List.set_cons_zero,List.set_cons_succ,i64_w,i32_w]
      rfl
     refine pure_ (i:=6) (N:=some 22) (v:=undef) (a':=?_) #[true,true,true,true,true,true,true,false,false,false,false,false] rfl rfl (by kernel_rfl) (fun _ _ _ h=>h) (Or.inr ⟨by rfl,rfl⟩) ?_ ?_
     rotate_left
     ·simp only [Act.put,List.setIfInBounds_toArray,List.set_cons_zero,List.set_cons_succ,i64_w,i32_w]
      rfl
     refine pure_ (i:=7) (N:=some 23) (v:=undef) (a':=?_) #[true,true,true,true,true,true,true,true,false,false,false,false] rfl rfl (by kernel_rfl) (fun _ _ _ h=>h) (Or.inr ⟨by rfl,rfl⟩) ?_ ?_
     rotate_left
     ·simp only [Act.put,List.setIfInBounds_toArray,List.set_cons_zero,List.set_cons_succ,i64_w,i32_w]
      rfl
     refine pure_ (i:=8) (N:=some 24) (v:=undef) (a':=?_) #[true,true,true,true,true,true,true,true,true,false,false,false] rfl rfl (by kernel_rfl) (fun _ _ _ h=>h) (Or.inr ⟨by rfl,rfl⟩) ?_ ?_
     rotate_left
     ·simp only [Act.put,List.setIfInBounds_toArray,List.set_cons_zero,List.set_cons_succ,i64_w,i32_w]
      rfl
     refine pure_ (i:=9) (N:=some 25) (v:=undef) (a':=?_) #[true,true,true,true,true,true,true,true,true,true,false,false] rfl rfl (by kernel_rfl) (fun _ _ _ h=>h) (Or.inr ⟨by rfl,rfl⟩) ?_ ?_
     rotate_left
     ·simp only [Act.put,List.setIfInBounds_toArray,List.set_cons_zero,List.set_cons_succ,i64_w,i32_w]
      rfl
     refine pure_ (i:=10) (N:=some 26) (v:=undef) (a':=?_) #[true,true,true,true,true,true,true,true,true,true,true,false] rfl rfl (by kernel_rfl) (fun _ _ _ h=>h) (Or.inr ⟨by rfl,rfl⟩) ?_ ?_
     rotate_left
     ·simp only [Act.put,List.setIfInBounds_toArray,List.set_cons_zero,List.set_cons_succ,i64_w,i32_w]
      rfl
     refine pure_ (i:=11) (N:=some 27) (v:=?_) (a':=?_) #[true,true,true,true,true,true,true,true,true,true,true,true] rfl rfl (by kernel_rfl) (fun _ _ _ h=>h) (Or.inl ⟨by rfl,?_⟩) ?_ ?_
     rotate_left
     ·intro w'
      go_simp
      with_reducible rfl
     rotate_left
     ·simp only [Act.put,List.setIfInBounds_toArray,List.set_cons_zero,List.set_cons_succ,i64_w,i32_w]
      rfl
     refine done_ (by kernel_rfl) ?_
     go_wp2
     go_ret
     exact ⟨rfl,HB2.out⟩
    | true =>
     simp only [if_true] at hgo
     have hx13:=hwho rfl
     have HX:=a_ (show 0≤x.f0∧x.f0≤4 from ⟨by omega,by omega⟩)
     have HC:=a_ (show 0≤cntE (l0.take j.toNat) x.f0∧cntE (l0.take j.toNat) x.f0≤1000 from ⟨HCN.out.1,by have:=HCN.out.2;have:=HCL.out;omega⟩)
     clear hwho hx13
     have HGO:=a_ hgo
     clear hgo
     generalize cntE (l0.take j.toNat)=c at HMd HSN HCN HGO HC
     by_cases hq:c x.f0+1=x.f1
     ·have hgo:=HGO.out
      rw [if_pos hq] at hgo
      clear HGO
      have HGO:=a_ hgo
      clear hgo
      have b1:(c x.f0+1 != x.f1)=false:=bne_eq_false_iff_eq.2 hq
      clear hq
      go_region_with (first
       | (go_at_call 78;refine (impl_EntryOk.calls k _ _ _ _ _ _ _ true _ HT.out HGd.out).mono ?_;rintro e w2 ⟨rfl,hb⟩;have HB2:=a_ (bS_ HBd.out hb);have HM2:=a_ (HMd.out.below hb);have HN2:=a_ (blk_below HNd.out hb);clear hb;have hd0:=(bC_ HN2.out 0).trans rfl;have hd1:=(bC_ HN2.out 1).trans rfl)
       | (go_at_call 87;refine (add_any _ _ _ _ _ HX.out HC.out HJN.out.1 HM2.out).mono ?_;rintro e w3 ⟨rfl,hM3,hg3⟩;have HM3:=a_ hM3;have HN3:=a_ ((hg3.block g (blk_lt HN2.out) (by intro e;cases e;have:=HW.out;omega)).trans HN2.out);have HB3:=a_ (HB2.out.grown hg3 HB2.out.size (fun j hj=>by cases hj;exact Nat.le_refl _));clear hM3 hg3;have hf0:=(bC_ HN3.out 0).trans rfl;have hf1:=(bC_ HN3.out 1).trans rfl))
      all_goals go_wp2
      all_goals have hjj:=HJN.out
      all_goals have hww:wrap64 (j+1)=j+1:=by unfold wrap64;omega
      all_goals refine ⟨⟨j+1,by omega,by omega,by rw [hww],HGO.out,?_,HB3.out⟩,?_⟩
      all_goals first
       | (rw [hww];show l0.length - (j+1).toNat < l0.length - j.toNat;omega)
       | (rw [HSN.out,show (j+1).toNat=j.toNat+1 by omega];exact HM3.out)
     ·have hgo:=HGO.out
      rw [if_neg hq] at hgo
      obtain rfl:=sj_ hgo
      clear HGO hgo
      have b1:(c x.f0+1 != x.f1)=true:=bne_iff_ne.2 hq
      clear hq
      go_region_with (first
       | (go_at_call 78;refine (impl_EntryOk.calls k _ _ _ _ _ _ _ true _ HT.out HGd.out).mono ?_;rintro e w2 ⟨rfl,hb⟩;have HB2:=a_ (bS_ HBd.out hb);have HM2:=a_ (HMd.out.below hb);have HN2:=a_ (blk_below HNd.out hb);clear hb;have hd0:=(bC_ HN2.out 0).trans rfl;have hd1:=(bC_ HN2.out 1).trans rfl)
       | (go_at_call 87;refine (add_any _ _ _ _ _ HX.out HC.out HJN.out.1 HM2.out).mono ?_;rintro e w3 ⟨rfl,hM3,hg3⟩;have HN3:=a_ ((hg3.block g (blk_lt HN2.out) (by intro e;cases e;have:=HW.out;omega)).trans HN2.out);have HB3:=a_ (HB2.out.grown hg3 HB2.out.size (fun j hj=>by cases hj;exact Nat.le_refl _));clear hM3 hg3;have hf0:=(bC_ HN3.out 0).trans rfl;have hf1:=(bC_ HN3.out 1).trans rfl))
      all_goals go_wp2
      all_goals go_ret
      all_goals exact ⟨rfl,HB3.out⟩
   ·have hd1:decide (j < (l0.length:Int))=false:=df_ hlt
    have hgo:=HGO.out
    rw [List.drop_eq_nil_of_le (by omega)] at hgo
    unfold impl_LogOk.go at hgo
    obtain rfl:=sj_ hgo
    clear hgo HGO hlt
    go_wp2
    go_ret
    exact ⟨rfl,HB.out⟩
theorem logOk_who {k:Nat}:∀ (rest pre:List S44),impl_LogOk.go k pre rest=some true→∀ e∈rest,1≤e.f0∧e.f0≤3
 | [],_,_,e,he=>by cases he
 | x::rest,pre,h,e,he=>by
  unfold impl_LogOk.go at h
  obtain ⟨t,ht,h⟩:=Option.bind_eq_some_iff.1 h
  cases t with
  | false=>simp at h
  | true =>
   rw [if_pos rfl] at h
   by_cases hq:cntE pre x.f0+1=x.f1
   ·rw [if_pos hq] at h
    rcases List.mem_cons.1 he with rfl|he
    ·exact entry_who ht
    ·exact logOk_who rest _ h e he
   ·rw [if_neg hq] at h
    cases h
theorem logOk_true {k:Nat} {l:List S44} (h:impl_LogOk.f k l=some true):l.length≤40∧∀ e∈l,1≤e.f0∧e.f0≤3:=by
 unfold impl_LogOk.f at h
 by_cases h40:(l.length:Int) > 40
 ·rw [if_pos h40] at h
  cases h
 ·rw [if_neg h40] at h
  exact ⟨by omega,logOk_who l [] h⟩
def impl_LogSeq.f (k:Nat) (l0:List S44) (a1:Int):Option Int :=
 (impl_LogOk.f k l0).bind fun t=>if t=true then (if 0≤a1∧a1≤4 then some (cntE l0 a1) else none) else some (-1)
theorem impl_LogSeq.mono (l0:List S44) (a1:Int) (k:Nat):LeO (impl_LogSeq.f k l0 a1) (impl_LogSeq.f (k+1) l0 a1):=by
 unfold impl_LogSeq.f
 exact LeO.bind (impl_LogOk.mono _ _) (fun _=>LeO.refl _)
def SeqRel (l0:List S44) (b:Nat) (w:World) (i:Value) (wr:World):Prop :=
 ∃ j:Int,0≤j∧j≤l0.length∧i=.int .i64 j∧CntMap wr b (cntE (l0.take j.toNat)) j.toNat∧Below w.heap.size w wr∧w.heap.size≤b
theorem impl_LogSeq.calls (k:Nat) (A0:Option Addr) (c0:Nat) (l0:List S44) (a1:Int) (r:Int) (w:World) (hr0:Kd.C k44 w A0 l0.length l0) (hc0:l0.length≤c0) (h:impl_LogSeq.f k l0 a1=some r) (hG:Glob w) :
  Calls Tryd.prog 33 #[.slice A0 l0.length c0,.int .i64 a1] w fun e w'=>e=.returned (.int .i64 r)∧Below w.heap.size w w':=by
 have HR0:=a_ hr0
 have HG:=a_ hG
 have HC0:=a_ hc0
 clear hr0 hG hc0
 unfold impl_LogSeq.f at h
 obtain ⟨t,ht,h⟩:=Option.bind_eq_some_iff.1 h
 have HT:=a_ ht
 clear ht
 have hmm:=@run_makeMap Tryd.prog
 cases t with
 | false =>
  simp only [Bool.false_eq_true,if_false,Option.some.injEq] at h
  subst h
  clear hmm
  go_enter Tryd.func33,Tryd.ntmps33
  go_wp2_with (go_at_call 42;refine (impl_LogOk.calls k _ _ _ false _ HR0.out HC0.out HT.out HG.out).mono ?_;rintro e w2 ⟨rfl,hb⟩;have HB2:=a_ hb;clear hb)
  go_ret
  exact ⟨rfl,HB2.out⟩
 | true =>
  rw [if_pos rfl] at h
  obtain ⟨h40,hwho⟩:=logOk_true HT.out
  have HWHO:=a_ hwho
  have H40:=a_ h40
  clear hwho h40
  by_cases ha:0≤a1∧a1≤4
  ·rw [if_pos ha] at h
   obtain rfl:=sj_ h
   clear h
   have HA:=a_ ha
   clear ha
   go_enter Tryd.func33,Tryd.ntmps33
   go_wp2_with (go_at_call 42;refine (impl_LogOk.calls k _ _ _ true _ HR0.out HC0.out HT.out HG.out).mono ?_;rintro e w2 ⟨rfl,hb⟩;have HB2:=a_ hb;clear hb)
   have hM0:CntMap (w2.alloc (.map #[] 0)) w2.heap.size (cntE []) 0:=⟨.map [],World.ownsMap_made _ _ _ _,fun x=>rfl⟩
   have HM0:=a_ hM0
   clear hM0
   have HBB:=a_ (show Below w.heap.size w (w2.alloc (.map #[] 0)) from wA_ HB2.out _)
   have HSZ:=a_ HB2.out.size
   generalize w2.heap.size=b at HM0 HSZ ⊢
   go_loopw [14] (fun i wr=>SeqRel l0 b w i wr) (fun i _=>l0.length - (intOf i).toNat)
   case atStart=>exact ⟨0,Int.le_refl _,by omega,rfl,HM0.out,HBB.out,HSZ.out⟩
   case round =>
    obtain ⟨j,hj0,hj,rfl,hM,hB,_⟩:=hrel
    have HM:=a_ hM
    have HB:=a_ hB
    clear hM hB HM0 HBB
    by_cases hlt:j < l0.length
    ·have hd1:decide (j < (l0.length:Int))=true:=dt_ hlt
     obtain ⟨ad,e,hx0,hx1,hx2,hx3,hx4,hx5,hx6⟩:=at_T44 HR0.out j hj0 hlt
     cases e
     replace hx0:=(cb_ HB.out hx0 :)
     replace hx1:=(cb_ HB.out hx1 :)
     replace hx2:=(cb_ HB.out hx2 :)
     replace hx3:=(cb_ HB.out hx3 :)
     replace hx4:=(cb_ HB.out hx4 :)
     replace hx5:=(cb_ HB.out hx5 :)
     replace hx6:=(cb_ HB.out hx6 :)
     have hu:=Tryd.underlying44
     have hxe:rd_T44 l0 j=l0[j.toNat]'(by omega):=by
      unfold rd_T44
      rw [List.getD_eq_getElem?_getD,List.getElem?_eq_getElem (by omega)]
      rfl
     have htk:=List.take_succ_eq_append_getElem (l:=l0) (i:=j.toNat) (by omega)
     have hmem:=HWHO.out _ (List.getElem_mem (l:=l0) (n:=j.toNat) (by omega))
     rw [←hxe] at htk hmem
     clear hxe
     generalize rd_T44 l0 j=x at hx0 hx1 hx2 hx3 hx4 hx5 hx6 htk hmem
     rw [show j.toNat+1=(j+1).toNat by omega] at htk
     have hjb:j≤40:=by have:=H40.out;omega
     have p1:=eq_true hj0
     have q1:=eq_true hlt
     have hcn:=cntE_le (l0.take j.toNat) x.f0
     have hcl:(l0.take j.toNat).length≤40:=by rw [List.length_take];omega
     have hsn:=cntE_snoc (l0.take j.toNat) x
     rw [←htk] at hsn
     have HSN:=a_ hsn
     have HJN:=a_ (show j.toNat≤1000∧0≤j∧j < l0.length from ⟨by omega,hj0,hlt⟩)
     have HM1:=a_ (HM.out.alloc (.cells #[.int .i64 x.f0,.int .i64 x.f1,.int .i64 x.f2.f0,.int .i64 x.f2.f1,.int .i64 x.f2.f2,.int .i64 x.f2.f3,.string x.f2.f4] 44))
     have HB1:=a_ (wA_ HB.out (.cells #[.int .i64 x.f0,.int .i64 x.f1,.int .i64 x.f2.f0,.int .i64 x.f2.f1,.int .i64 x.f2.f2,.int .i64 x.f2.f3,.string x.f2.f4] 44))
     have HX:=a_ (show 0≤x.f0∧x.f0≤4 from ⟨by omega,by omega⟩)
     have HC:=a_ (show 0≤cntE (l0.take j.toNat) x.f0∧cntE (l0.take j.toNat) x.f0≤1000 from ⟨hcn.1,by have:=hcn.2;omega⟩)
     clear hj0 hlt hcn hcl htk hsn HM HB hmem
     go_wp2_with (go_at_call 87;refine (add_any _ _ _ _ _ HX.out HC.out HJN.out.1 HM1.out).mono ?_;rintro e w3 ⟨rfl,hM3,hg3⟩;have HM3:=a_ hM3;have HB3:=a_ (HB1.out.grown hg3 HB1.out.size (fun j hj=>by cases hj;exact HSZ.out));clear hM3 hg3)
     all_goals have hjj:=HJN.out
     all_goals have hww:wrap64 (j+1)=j+1:=by unfold wrap64;omega
     all_goals refine ⟨⟨j+1,by omega,by omega,by rw [hww],?_,HB3.out,HSZ.out⟩,?_⟩
     all_goals first
      | (rw [hww];show l0.length - (j+1).toNat < l0.length - j.toNat;omega)
      | (rw [HSN.out,show (j+1).toNat=j.toNat+1 by omega];exact HM3.out)
    ·have hd1:decide (j < (l0.length:Int))=false:=df_ hlt
     have hM:=HM.out
     rw [List.take_of_length_le (by omega)] at hM
     clear HM hlt
     obtain ⟨D,hown,hat⟩:=hM
     have hkey:keyOf Tryd.prog 3 (.int .i64 a1)=some (.int .i64 a1):=keyOf_int_mk Tryd.underlying3 (wf_small a1 (by have:=HA.out;omega))
     have HAT:=a_ (hat a1)
     clear hat
     go_wp2_with (at_lookup;refine wpList_lookup_own_int _ rfl (.tmp 23) (.tmp 24) 114 rfl 3 3 .i64 keyI Tryd.underlying114 Tryd.underlying3 (zeroI _) b j.toNat D rfl hown _ _ rfl hkey ?_;intro z hz hwz;have ez:z=cntE l0 a1:=(by have:=HAT.out.symm.trans hz;injection this with this;injection this with _ this;exact this.symm);subst ez;clear hz hwz)
     go_ret
     exact ⟨rfl,HB.out⟩
  ·rw [if_neg ha] at h
   cases h
end Go.Proofs.YtdpklbomhdpimaaDoor.P
namespace Go.Proofs.YtdpklbomhdpimaaDoor.P
open Go.RowKit Go.Proofs.YtdpklbomhdpimaaDoorW.PrintWords Go.Proofs.YtdpklbomhdpimaaDoorW.PrintLast
attribute [local go_sem high] eqA44
def impl_Entry_123.l0:Nat→List (S44)→Int→Int→Int→Int→Int→Int→Int→Int→ByteArray→Option (Int)
 | 0,_,_,_,_,_,_,_,_,_,_=>none
 | k+1,x0,x7,x8,x748000,x748001,x748002,x748003,x748004,x748005,x748006=>if x8 < x7 then (if 0≤x8 then (if x8 < (x0.length:Int) then (if (x748000==((rd_T44 x0 x8).f0)&&(x748001==((rd_T44 x0 x8).f1)&&((x748002==((rd_T44 x0 x8).f2.f0)&&(x748003==((rd_T44 x0 x8).f2.f1)&&(x748004==((rd_T44 x0 x8).f2.f2)&&(x748005==((rd_T44 x0 x8).f2.f3)&&(x748006.toList==(((rd_T44 x0 x8).f2.f4).toList)))))))))=true then (some x8) else (impl_Entry_123.l0 k x0 x7 (wrap64 (x8+1)) x748000 x748001 x748002 x748003 x748004 x748005 x748006)) else (none)) else (none)) else (some (-1))
def impl_Entry_123.f (k:Nat) (l0:List (S44)) (a1_0:Int) (a1_1:Int) (a1_2:Int) (a1_3:Int) (a1_4:Int) (a1_5:Int) (a1_6:ByteArray):Option (Int):=impl_Entry_123.l0 k l0 (l0.length:Int) 0 a1_0 a1_1 a1_2 a1_3 a1_4 a1_5 a1_6
theorem impl_Entry_123.mono_l:∀ k,(∀ y0 y1 y2 y3 y4 y5 y6 y7 y8 y9,LeO (impl_Entry_123.l0 k y0 y1 y2 y3 y4 y5 y6 y7 y8 y9) (impl_Entry_123.l0 (k+1) y0 y1 y2 y3 y4 y5 y6 y7 y8 y9))
 | 0=>fun _ _ _ _ _ _ _ _ _ _ r h=>by simp [impl_Entry_123.l0] at h
 | k+1=>by
  have ih0:=impl_Entry_123.mono_l k
  ·intro y0 y1 y2 y3 y4 y5 y6 y7 y8 y9
   unfold impl_Entry_123.l0
   repeat' first
   | (with_reducible exact ih0 _ _ _ _ _ _ _ _ _ _)
   | (with_reducible exact LeO.refl _)
   | (with_reducible exact LeO.none _)
   | (with_reducible refine LeO.ite ?_ ?_)
   | (with_reducible refine LeO.bind ?_ (fun _=>?_))
   | exact ih0 _ _ _ _ _ _ _ _ _ _
   | exact LeO.none _
   | refine LeO.ite ?_ ?_
   | refine LeO.bind ?_ (fun _=>?_)
theorem impl_Entry_123.mono:∀ a0 a1 a2 a3 a4 a5 a6 a7 k,LeO (impl_Entry_123.f k a0 a1 a2 a3 a4 a5 a6 a7) (impl_Entry_123.f (k+1) a0 a1 a2 a3 a4 a5 a6 a7):=by
 intro a0 a1 a2 a3 a4 a5 a6 a7 k
 have ih0:=impl_Entry_123.mono_l k
 unfold impl_Entry_123.f
 repeat' first
   | (with_reducible exact ih0 _ _ _ _ _ _ _ _ _ _)
   | (with_reducible exact LeO.refl _)
   | (with_reducible exact LeO.none _)
   | (with_reducible refine LeO.ite ?_ ?_)
   | (with_reducible refine LeO.bind ?_ (fun _=>?_))
   | exact ih0 _ _ _ _ _ _ _ _ _ _
   | exact LeO.none _
   | refine LeO.ite ?_ ?_
   | refine LeO.bind ?_ (fun _=>?_)
theorem impl_Entry_123.calls (k:Nat) (A0:Option Addr) (c0:Nat) (l0:List (S44)) (a1_0:Int) (a1_1:Int) (a1_2:Int) (a1_3:Int) (a1_4:Int) (a1_5:Int) (a1_6:ByteArray) (r:Int) (w:World) (hr0:Kd.C k44 w A0 l0.length l0) (hc0:l0.length≤c0) (h:impl_Entry_123.f k l0 a1_0 a1_1 a1_2 a1_3 a1_4 a1_5 a1_6=some r) :
  Calls Tryd.prog 123 #[.slice A0 l0.length c0,.agg #[.int .i64 a1_0,.int .i64 a1_1,.int .i64 a1_2,.int .i64 a1_3,.int .i64 a1_4,.int .i64 a1_5,.string a1_6]] w fun e w'=>e=.returned (.int .i64 r)∧Below w.heap.size w w':=by
 have hu44:=Tryd.underlying44
 have HR0:=a_ hr0
 have HC0:=a_ hc0
 clear hr0 hc0
 have HB:=a_ (Below.refl w.heap.size w)
 unfold impl_Entry_123.f at h
 have H:=h
 clear h
 have H':=a_ H
 clear H
 go_enter Tryd.func123,Tryd.ntmps123
 go_wp2_with (first|((with_reducible refine gD_ (N:=3) rfl ?_);refine bx_ 3 (#[.int .i64 a1_0,.int .i64 a1_1,.int .i64 a1_2,.int .i64 a1_3,.int .i64 a1_4,.int .i64 a1_5,.string a1_6]) 44 ?_;intro gb747 hg w3 hbox hb;have n0_:=a_ (bS_ (bel_) hb);have n1_:=a_ (hbox);have n2_:=a_ ((by rw [hg];exact (below_size (bel_)):w.heap.size≤gb747));have n3_:=a_ ((by rw [hg];exact (below_size (bel_)):w.heap.size≤gb747));clear HB;have HB:=n0_;have BK747:=n1_;have GW747:=n2_;have GE747:=n3_;clear n0_ n1_ n2_ n3_;clear hb hbox hg))
 repeat (go_quiet (first|((with_reducible refine gD_ (N:=3) rfl ?_);refine bx_ 3 (#[.int .i64 a1_0,.int .i64 a1_1,.int .i64 a1_2,.int .i64 a1_3,.int .i64 a1_4,.int .i64 a1_5,.string a1_6]) 44 ?_;intro gb747 hg w3 hbox hb;have n0_:=a_ (bS_ (bel_) hb);have n1_:=a_ (hbox);have n2_:=a_ ((by rw [hg];exact (below_size (bel_)):w.heap.size≤gb747));have n3_:=a_ ((by rw [hg];exact (below_size (bel_)):w.heap.size≤gb747));clear HB;have HB:=n0_;have BK747:=n1_;have GW747:=n2_;have GE747:=n3_;clear n0_ n1_ n2_ n3_;clear hb hbox hg));try go_wp2_with (first|((with_reducible refine gD_ (N:=3) rfl ?_);refine bx_ 3 (#[.int .i64 a1_0,.int .i64 a1_1,.int .i64 a1_2,.int .i64 a1_3,.int .i64 a1_4,.int .i64 a1_5,.string a1_6]) 44 ?_;intro gb747 hg w3 hbox hb;have n0_:=a_ (bS_ (bel_) hb);have n1_:=a_ (hbox);have n2_:=a_ ((by rw [hg];exact (below_size (bel_)):w.heap.size≤gb747));have n3_:=a_ ((by rw [hg];exact (below_size (bel_)):w.heap.size≤gb747));clear HB;have HB:=n0_;have BK747:=n1_;have GW747:=n2_;have GE747:=n3_;clear n0_ n1_ n2_ n3_;clear hb hbox hg)))
 go_loopg [8] k (fun kq v8 w'=>∃ (x8_1:Int),v8=.int .i64 x8_1∧Aside0 (impl_Entry_123.l0 kq l0 (l0.length:Int) x8_1 a1_0 a1_1 a1_2 a1_3 a1_4 a1_5 a1_6=some r)∧Aside0 (kq≤k)∧Aside0 (w'.heap[gb747]?=some (.cells #[.int .i64 a1_0,.int .i64 a1_1,.int .i64 a1_2,.int .i64 a1_3,.int .i64 a1_4,.int .i64 a1_5,.string a1_6] 44 (0,0)))∧Aside0 (Below w.heap.size w w'))
 case atStart=>exact ⟨(0),(si_),H',⟨Nat.le_refl _⟩,⟨by (with_reducible repeat (first|refine bN_ ?_ _|refine bD_ ?_|refine bA_ ?_ _));exact BK747.out⟩,⟨bel_⟩⟩
 case round =>
  clear H'
  try clear c1
  try clear p2
  obtain ⟨x8_1,rfl,HA,HK1,BK747,HB⟩:=hrel
  cases gk with
  | zero=>exact absurd HA.out (by simp [impl_Entry_123.l0])
  | succ k1 =>
   have H:=HA.out
   clear HA
   simp only [impl_Entry_123.l0] at H
   by_cases c4:x8_1 < (l0.length:Int)
   ·rw [if_pos c4] at H
    have c4b0:decide (x8_1 < (l0.length:Int))=true:=dt_ c4
    clear c4
    by_cases c5:0≤x8_1
    ·rw [if_pos c5] at H
     have c5b0:decide (0≤x8_1)=true:=dt_ c5
     clear c5
     by_cases c6:x8_1 < (l0.length:Int)
     ·rw [if_pos c6] at H
      have c6b0:decide (x8_1 < (l0.length:Int))=true:=dt_ c6
      clear c6
      by_cases c7:(a1_0==((rd_T44 l0 x8_1).f0)&&(a1_1==((rd_T44 l0 x8_1).f1)&&((a1_2==((rd_T44 l0 x8_1).f2.f0)&&(a1_3==((rd_T44 l0 x8_1).f2.f1)&&(a1_4==((rd_T44 l0 x8_1).f2.f2)&&(a1_5==((rd_T44 l0 x8_1).f2.f3)&&(a1_6.toList==(((rd_T44 l0 x8_1).f2.f4).toList)))))))))=true
      ·rw [if_pos c7] at H
       have c7b0:(a1_0==((rd_T44 l0 x8_1).f0)&&(a1_1==((rd_T44 l0 x8_1).f1)&&((a1_2==((rd_T44 l0 x8_1).f2.f0)&&(a1_3==((rd_T44 l0 x8_1).f2.f1)&&(a1_4==((rd_T44 l0 x8_1).f2.f2)&&(a1_5==((rd_T44 l0 x8_1).f2.f3)&&(a1_6.toList==(((rd_T44 l0 x8_1).f2.f4).toList)))))))))=true:=c7
       (try (have c7b1:decide (a1_0=((rd_T44 l0 x8_1).f0)&&(a1_1==((rd_T44 l0 x8_1).f1)&&((a1_2==((rd_T44 l0 x8_1).f2.f0)&&(a1_3==((rd_T44 l0 x8_1).f2.f1)&&(a1_4==((rd_T44 l0 x8_1).f2.f2)&&(a1_5==((rd_T44 l0 x8_1).f2.f3)&&(a1_6.toList==(((rd_T44 l0 x8_1).f2.f4).toList)))))))))=true:=by simpa using c7))
       (try (have c7b2:(a1_0==((rd_T44 l0 x8_1).f0)&&(a1_1==((rd_T44 l0 x8_1).f1)&&((a1_2==((rd_T44 l0 x8_1).f2.f0)&&(a1_3==((rd_T44 l0 x8_1).f2.f1)&&(a1_4==((rd_T44 l0 x8_1).f2.f2)&&(a1_5==((rd_T44 l0 x8_1).f2.f3)&&(a1_6.toList==(((rd_T44 l0 x8_1).f2.f4).toList)))))))))=true:=by simpa using c7))
       clear c7
       obtain rfl:=sj_ H
       have Z8_0:wr.cell? ⟨gb747,0,none⟩=some (.int .i64 a1_0):=(bC_ BK747.out 0).trans rfl
       have Z8_1:wr.cell? ⟨gb747,1,none⟩=some (.int .i64 a1_1):=(bC_ BK747.out 1).trans rfl
       have Z8_2:wr.cell? ⟨gb747,2,none⟩=some (.int .i64 a1_2):=(bC_ BK747.out 2).trans rfl
       have Z8_3:wr.cell? ⟨gb747,3,none⟩=some (.int .i64 a1_3):=(bC_ BK747.out 3).trans rfl
       have Z8_4:wr.cell? ⟨gb747,4,none⟩=some (.int .i64 a1_4):=(bC_ BK747.out 4).trans rfl
       have Z8_5:wr.cell? ⟨gb747,5,none⟩=some (.int .i64 a1_5):=(bC_ BK747.out 5).trans rfl
       have Z8_6:wr.cell? ⟨gb747,6,none⟩=some (.string a1_6):=(bC_ BK747.out 6).trans rfl
       have Y8_0:=bF_ BK747.out 0
       have Y8_1:=bF_ BK747.out 1
       have Y8_2:=bF_ BK747.out 2
       have Y8_3:=bF_ BK747.out 3
       have Y8_4:=bF_ BK747.out 4
       have Y8_5:=bF_ BK747.out 5
       have Y8_6:=bF_ BK747.out 6
       have p748:0≤(x8_1:Int):=od_
       have q748:x8_1 < (l0.length:Int):=od_
       obtain ⟨ad748,e748,hx748_0,hx748_1,hx748_2,hx748_3,hx748_4,hx748_5,hx748_6⟩:=at_T44 HR0.out x8_1 p748 q748
       cases e748
       replace hx748_0:=(cb_ HB.out hx748_0 :)
       replace hx748_1:=(cb_ HB.out hx748_1 :)
       replace hx748_2:=(cb_ HB.out hx748_2 :)
       replace hx748_3:=(cb_ HB.out hx748_3 :)
       replace hx748_4:=(cb_ HB.out hx748_4 :)
       replace hx748_5:=(cb_ HB.out hx748_5 :)
       replace hx748_6:=(cb_ HB.out hx748_6 :)
       replace p748:=eq_true p748
       replace q748:=eq_true q748
       go_wp2
       repeat (go_quiet (fail);try go_wp2)
       go_ret
       exact ⟨fi_,bel_⟩
      ·rw [if_neg c7] at H
       have c7b0:(a1_0==((rd_T44 l0 x8_1).f0)&&(a1_1==((rd_T44 l0 x8_1).f1)&&((a1_2==((rd_T44 l0 x8_1).f2.f0)&&(a1_3==((rd_T44 l0 x8_1).f2.f1)&&(a1_4==((rd_T44 l0 x8_1).f2.f2)&&(a1_5==((rd_T44 l0 x8_1).f2.f3)&&(a1_6.toList==(((rd_T44 l0 x8_1).f2.f4).toList)))))))))=false:=by simpa using c7
       (try (have c7b1:decide (a1_0=((rd_T44 l0 x8_1).f0)&&(a1_1==((rd_T44 l0 x8_1).f1)&&((a1_2==((rd_T44 l0 x8_1).f2.f0)&&(a1_3==((rd_T44 l0 x8_1).f2.f1)&&(a1_4==((rd_T44 l0 x8_1).f2.f2)&&(a1_5==((rd_T44 l0 x8_1).f2.f3)&&(a1_6.toList==(((rd_T44 l0 x8_1).f2.f4).toList)))))))))=false:=by simpa using c7))
       (try (have c7b2:(a1_0==((rd_T44 l0 x8_1).f0)&&(a1_1==((rd_T44 l0 x8_1).f1)&&((a1_2==((rd_T44 l0 x8_1).f2.f0)&&(a1_3==((rd_T44 l0 x8_1).f2.f1)&&(a1_4==((rd_T44 l0 x8_1).f2.f2)&&(a1_5==((rd_T44 l0 x8_1).f2.f3)&&(a1_6.toList==(((rd_T44 l0 x8_1).f2.f4).toList)))))))))=false:=by simpa using c7))
       (try (have c7b3:¬ (a1_0=((rd_T44 l0 x8_1).f0)&&(a1_1==((rd_T44 l0 x8_1).f1)&&((a1_2==((rd_T44 l0 x8_1).f2.f0)&&(a1_3==((rd_T44 l0 x8_1).f2.f1)&&(a1_4==((rd_T44 l0 x8_1).f2.f2)&&(a1_5==((rd_T44 l0 x8_1).f2.f3)&&(a1_6.toList==(((rd_T44 l0 x8_1).f2.f4).toList))))))))):=by simpa using c7))
       clear c7
       have H':=a_ H
       clear H
       have Z9_0:wr.cell? ⟨gb747,0,none⟩=some (.int .i64 a1_0):=(bC_ BK747.out 0).trans rfl
       have Z9_1:wr.cell? ⟨gb747,1,none⟩=some (.int .i64 a1_1):=(bC_ BK747.out 1).trans rfl
       have Z9_2:wr.cell? ⟨gb747,2,none⟩=some (.int .i64 a1_2):=(bC_ BK747.out 2).trans rfl
       have Z9_3:wr.cell? ⟨gb747,3,none⟩=some (.int .i64 a1_3):=(bC_ BK747.out 3).trans rfl
       have Z9_4:wr.cell? ⟨gb747,4,none⟩=some (.int .i64 a1_4):=(bC_ BK747.out 4).trans rfl
       have Z9_5:wr.cell? ⟨gb747,5,none⟩=some (.int .i64 a1_5):=(bC_ BK747.out 5).trans rfl
       have Z9_6:wr.cell? ⟨gb747,6,none⟩=some (.string a1_6):=(bC_ BK747.out 6).trans rfl
       have Y9_0:=bF_ BK747.out 0
       have Y9_1:=bF_ BK747.out 1
       have Y9_2:=bF_ BK747.out 2
       have Y9_3:=bF_ BK747.out 3
       have Y9_4:=bF_ BK747.out 4
       have Y9_5:=bF_ BK747.out 5
       have Y9_6:=bF_ BK747.out 6
       have p748:0≤(x8_1:Int):=od_
       have q748:x8_1 < (l0.length:Int):=od_
       obtain ⟨ad748,e748,hx748_0,hx748_1,hx748_2,hx748_3,hx748_4,hx748_5,hx748_6⟩:=at_T44 HR0.out x8_1 p748 q748
       cases e748
       replace hx748_0:=(cb_ HB.out hx748_0 :)
       replace hx748_1:=(cb_ HB.out hx748_1 :)
       replace hx748_2:=(cb_ HB.out hx748_2 :)
       replace hx748_3:=(cb_ HB.out hx748_3 :)
       replace hx748_4:=(cb_ HB.out hx748_4 :)
       replace hx748_5:=(cb_ HB.out hx748_5 :)
       replace hx748_6:=(cb_ HB.out hx748_6 :)
       replace p748:=eq_true p748
       replace q748:=eq_true q748
       go_wp2
       repeat (go_quiet (fail);try go_wp2)
       go_roundg k1
       case measure=>have:=HK1.out;omega
       case rel=>exact ⟨(wrap64 (x8_1+1)),(si_),H',⟨by have:=HK1.out;omega⟩,⟨by (with_reducible repeat (first|refine bN_ ?_ _|refine bD_ ?_|refine bA_ ?_ _));exact BK747.out⟩,⟨bel_⟩⟩
     ·rw [if_neg c6] at H
      exact absurd H (by simp)
    ·rw [if_neg c5] at H
     exact absurd H (by simp)
   ·rw [if_neg c4] at H
    have c4b0:decide (x8_1 < (l0.length:Int))=false:=df_ c4
    clear c4
    obtain rfl:=sj_ H
    go_wp2
    repeat (go_quiet (fail);try go_wp2)
    go_ret
    exact ⟨fi_,bel_⟩

def impl_Entry_86.f (k:Nat) (l0:List (S44)) (a1_0:Int) (a1_1:Int) (a1_2:Int) (a1_3:Int) (a1_4:Int) (a1_5:Int) (a1_6:ByteArray):Option (Bool):=(impl_Entry_123.f k l0 a1_0 a1_1 a1_2 a1_3 a1_4 a1_5 a1_6).bind fun t750=>(some (decide (t750≥0)))
theorem impl_Entry_86.mono:∀ a0 a1 a2 a3 a4 a5 a6 a7 k,LeO (impl_Entry_86.f k a0 a1 a2 a3 a4 a5 a6 a7) (impl_Entry_86.f (k+1) a0 a1 a2 a3 a4 a5 a6 a7):=by
 intro a0 a1 a2 a3 a4 a5 a6 a7 k
 unfold impl_Entry_86.f
 repeat' first
   | (with_reducible exact impl_Entry_123.mono _ _ _ _ _ _ _ _ _)
   | (with_reducible exact LeO.refl _)
   | (with_reducible exact LeO.none _)
   | (with_reducible refine LeO.ite ?_ ?_)
   | (with_reducible refine LeO.bind ?_ (fun _=>?_))
   | exact impl_Entry_123.mono _ _ _ _ _ _ _ _ _
   | exact LeO.none _
   | refine LeO.ite ?_ ?_
   | refine LeO.bind ?_ (fun _=>?_)
theorem impl_Entry_86.calls (k:Nat) (A0:Option Addr) (c0:Nat) (l0:List (S44)) (a1_0:Int) (a1_1:Int) (a1_2:Int) (a1_3:Int) (a1_4:Int) (a1_5:Int) (a1_6:ByteArray) (r:Bool) (w:World) (hr0:Kd.C k44 w A0 l0.length l0) (hc0:l0.length≤c0) (h:impl_Entry_86.f k l0 a1_0 a1_1 a1_2 a1_3 a1_4 a1_5 a1_6=some r) :
  Calls Tryd.prog 86 #[.slice A0 l0.length c0,.agg #[.int .i64 a1_0,.int .i64 a1_1,.int .i64 a1_2,.int .i64 a1_3,.int .i64 a1_4,.int .i64 a1_5,.string a1_6]] w fun e w'=>e=.returned (.bool r)∧Below w.heap.size w w':=by
 have hu44:=Tryd.underlying44
 have HR0:=a_ hr0
 have HC0:=a_ hc0
 clear hr0 hc0
 have HB:=a_ (Below.refl w.heap.size w)
 unfold impl_Entry_86.f at h
 have H:=h
 clear h
 replace H:=bs_ H
 obtain ⟨t750,A30,H⟩:=H
 try dsimp only at H
 have A3:=a_ A30
 clear A30
 obtain rfl:=sj_ H
 go_enter Tryd.func86,Tryd.ntmps86
 go_wp2_with (first|((with_reducible refine gD_ (N:=3) rfl ?_);refine bx_ 3 (#[.int .i64 a1_0,.int .i64 a1_1,.int .i64 a1_2,.int .i64 a1_3,.int .i64 a1_4,.int .i64 a1_5,.string a1_6]) 44 ?_;intro gb749 hg w4 hbox hb;have n0_:=a_ (bS_ (bel_) hb);have n1_:=a_ (hbox);have n2_:=a_ ((by rw [hg];exact (below_size (bel_)):w.heap.size≤gb749));have n3_:=a_ ((by rw [hg];exact (below_size (bel_)):w.heap.size≤gb749));clear HB;have HB:=n0_;have BK749:=n1_;have GW749:=n2_;have GE749:=n3_;clear n0_ n1_ n2_ n3_;clear hb hbox hg;have Z5_0:=cz_ BK749.out 0 (.int .i64 a1_0);have Z5_1:=cz_ BK749.out 1 (.int .i64 a1_1);have Z5_2:=cz_ BK749.out 2 (.int .i64 a1_2);have Z5_3:=cz_ BK749.out 3 (.int .i64 a1_3);have Z5_4:=cz_ BK749.out 4 (.int .i64 a1_4);have Z5_5:=cz_ BK749.out 5 (.int .i64 a1_5);have Z5_6:=cz_ BK749.out 6 (.string a1_6);have Y5_0:=bF_ BK749.out 0;have Y5_1:=bF_ BK749.out 1;have Y5_2:=bF_ BK749.out 2;have Y5_3:=bF_ BK749.out 3;have Y5_4:=bF_ BK749.out 4;have Y5_5:=bF_ BK749.out 5;have Y5_6:=bF_ BK749.out 6)|((with_reducible refine gC_ (f:=123) rfl ?_);refine gl_ 7 Tryd.func123 #[.slice A0 l0.length c0,.agg #[.int .i64 a1_0,.int .i64 a1_1,.int .i64 a1_2,.int .i64 a1_3,.int .i64 a1_4,.int .i64 a1_5,.string a1_6]] ?_;(with_reducible refine (impl_Entry_123.calls k _ _ l0 a1_0 a1_1 a1_2 a1_3 a1_4 a1_5 a1_6 t750 _ ?side1 ?side2 A3.out).mono ?_);(case side1=>exact cp_ HR0.out);(case side2=>exact HC0.out);rintro e w6 ⟨rfl,hb⟩;refine ⟨_,rfl,?_⟩;replace HB:=a_ (bS_ (bel_) hb);replace BK749:=a_ (bb_ BK749.out hb);(try clear hb)))
 go_ret
 exact ⟨fi_,bel_⟩

def impl_LogAdd.j0:Nat→List (S44)→Bool→Int→Int→Int→Int→Int→Int→ByteArray→Option ((List (S44))×Int)
 | 0,_,_,_,_,_,_,_,_,_=>none
 | k+1,x0,x14,x752000,x752001,x752002,x752003,x752004,x752005,x752006=>if x14=true then (some (([]:List (S44)),(-1))) else ((impl_Entry_85.f x0).bind fun t754=>((impl_Entry_86.f k x0 x752000 x752001 x752002 x752003 x752004 x752005 x752006).bind fun t757=>(if t757=true then (some (t754,0)) else ((impl_LogSeq.f k x0 x752000).bind fun t758=>(if x752001=(wrap64 (t758+1)) then (if (x0.length:Int)≥40 then (some (t754,(-1))) else (if t754.length < 2199023255552 then (some ((t754++[(⟨x752000,x752001,(⟨x752002,x752003,x752004,x752005,x752006⟩:S42)⟩:S44)]),1)) else (none))) else (some (t754,(-1))))))))
def impl_LogAdd.f (k:Nat) (l0:List (S44)) (a1_0:Int) (a1_1:Int) (a1_2:Int) (a1_3:Int) (a1_4:Int) (a1_5:Int) (a1_6:ByteArray):Option ((List (S44))×Int):=(impl_LogOk.f k l0).bind fun t752=>(if t752=true then ((impl_EntryOk.f k a1_0 a1_1 a1_2 a1_3 a1_4 a1_5 a1_6).bind fun t753=>(impl_LogAdd.j0 k l0 (!t753) a1_0 a1_1 a1_2 a1_3 a1_4 a1_5 a1_6)) else (impl_LogAdd.j0 k l0 true a1_0 a1_1 a1_2 a1_3 a1_4 a1_5 a1_6))
theorem impl_LogAdd.mono_l:∀ k,(∀ y0 y1 y2 y3 y4 y5 y6 y7 y8,LeO (impl_LogAdd.j0 k y0 y1 y2 y3 y4 y5 y6 y7 y8) (impl_LogAdd.j0 (k+1) y0 y1 y2 y3 y4 y5 y6 y7 y8))
 | 0=>fun _ _ _ _ _ _ _ _ _ r h=>by simp [impl_LogAdd.j0] at h
 | k+1=>by
  have ih0:=impl_LogAdd.mono_l k
  ·intro y0 y1 y2 y3 y4 y5 y6 y7 y8
   unfold impl_LogAdd.j0
   repeat' first
   | (with_reducible exact ih0 _ _ _ _ _ _ _ _ _)
   | (with_reducible exact impl_EntryOk.mono _ _ _ _ _ _ _ _)
   | (with_reducible exact impl_Entry_86.mono _ _ _ _ _ _ _ _ _)
   | (with_reducible exact impl_LogOk.mono _ _)
   | (with_reducible exact impl_LogSeq.mono _ _ _)
   | (with_reducible exact LeO.refl _)
   | (with_reducible exact LeO.none _)
   | (with_reducible refine LeO.ite ?_ ?_)
   | (with_reducible refine LeO.bind ?_ (fun _=>?_))
   | exact ih0 _ _ _ _ _ _ _ _ _
   | exact impl_EntryOk.mono _ _ _ _ _ _ _ _
   | exact impl_Entry_86.mono _ _ _ _ _ _ _ _ _
   | exact impl_LogOk.mono _ _
   | exact impl_LogSeq.mono _ _ _
   | exact LeO.none _
   | refine LeO.ite ?_ ?_
   | refine LeO.bind ?_ (fun _=>?_)
theorem impl_LogAdd.mono:∀ a0 a1 a2 a3 a4 a5 a6 a7 k,LeO (impl_LogAdd.f k a0 a1 a2 a3 a4 a5 a6 a7) (impl_LogAdd.f (k+1) a0 a1 a2 a3 a4 a5 a6 a7):=by
 intro a0 a1 a2 a3 a4 a5 a6 a7 k
 have ih0:=impl_LogAdd.mono_l k
 unfold impl_LogAdd.f
 repeat' first
   | (with_reducible exact ih0 _ _ _ _ _ _ _ _ _)
   | (with_reducible exact impl_EntryOk.mono _ _ _ _ _ _ _ _)
   | (with_reducible exact impl_Entry_86.mono _ _ _ _ _ _ _ _ _)
   | (with_reducible exact impl_LogOk.mono _ _)
   | (with_reducible exact impl_LogSeq.mono _ _ _)
   | (with_reducible exact LeO.refl _)
   | (with_reducible exact LeO.none _)
   | (with_reducible refine LeO.ite ?_ ?_)
   | (with_reducible refine LeO.bind ?_ (fun _=>?_))
   | exact ih0 _ _ _ _ _ _ _ _ _
   | exact impl_EntryOk.mono _ _ _ _ _ _ _ _
   | exact impl_Entry_86.mono _ _ _ _ _ _ _ _ _
   | exact impl_LogOk.mono _ _
   | exact impl_LogSeq.mono _ _ _
   | exact LeO.none _
   | refine LeO.ite ?_ ?_
   | refine LeO.bind ?_ (fun _=>?_)
def impl_LogAdd.T6:Bool×List (List Nat×List Nat):=(true,[([],[]),([0],[0]),([],[]),([],[]),([3],[3]),([2,4],[2,4]),([5],[5]),([1,6],[1,6]),([7,5],[7]),([8],[8]),([9,8],[8,9]),([10,8],[8,10]),([8,11],[8,11])])
def impl_LogAdd.B6:List Nat:=[0,1,0,0,8,28,60,127,255,511,1023,2047,4095]
theorem impl_LogAdd.tab6:rtab .any (opsOf Tryd.f31 6)=impl_LogAdd.T6:=by kernel_rfl
theorem impl_LogAdd.bits6:waitsOk impl_LogAdd.T6.2 impl_LogAdd.B6=true:=by kernel_rfl
theorem impl_LogAdd.calls (k:Nat) (A0:Option Addr) (c0:Nat) (l0:List (S44)) (a1_0:Int) (a1_1:Int) (a1_2:Int) (a1_3:Int) (a1_4:Int) (a1_5:Int) (a1_6:ByteArray) (r1:List (S44)) (r2:Int) (w:World) (hr0:Kd.C k44 w A0 l0.length l0) (hc0:l0.length≤c0) (h:impl_LogAdd.f k l0 a1_0 a1_1 a1_2 a1_3 a1_4 a1_5 a1_6=some (r1,r2)) (hG:Glob w) :
  Calls Tryd.prog 31 #[.slice A0 l0.length c0,.agg #[.int .i64 a1_0,.int .i64 a1_1,.int .i64 a1_2,.int .i64 a1_3,.int .i64 a1_4,.int .i64 a1_5,.string a1_6]] w fun e w'=>∃ v0_:Value,e=.returned (.tuple #[v0_,.int .i64 r2])∧Kd.R k44 44 w' w.heap.size (fun _=>True) v0_ r1∧Below w.heap.size w w':=by
 have hu44:=Tryd.underlying44
 have HR0:=a_ hr0
 have HC0:=a_ hc0
 clear hr0 hc0
 have HB:=a_ (Below.refl w.heap.size w)
 have HG:=a_ hG
 clear hG
 unfold impl_LogAdd.f at h
 have H:=h
 clear h
 have HC3:=a_ H
 clear H
 go_enter Tryd.func31,Tryd.ntmps31
 go_upto_region 1 with (first|((with_reducible refine gD_ (N:=3) rfl ?_);refine bx_ 3 (#[.int .i64 a1_0,.int .i64 a1_1,.int .i64 a1_2,.int .i64 a1_3,.int .i64 a1_4,.int .i64 a1_5,.string a1_6]) 44 ?_;intro gb751 hg w4 hbox hb;have n0_:=a_ (bS_ (bel_) hb);have n1_:=a_ (hbox);have n2_:=a_ ((by rw [hg];exact (below_size (bel_)):w.heap.size≤gb751));have n3_:=a_ ((by rw [hg];exact (below_size (bel_)):w.heap.size≤gb751));clear HB;have HB:=n0_;have BK751:=n1_;have GW751:=n2_;have GE751:=n3_;clear n0_ n1_ n2_ n3_;clear hb hbox hg))
 (try simp only [Act.put,List.setIfInBounds_toArray,List.set_cons_zero,List.set_cons_succ])
 go_cut [14] (fun v14 wc=>∃ (kq:Nat) (x14_2:Bool),v14=.bool x14_2∧Aside0 (impl_LogAdd.j0 kq l0 x14_2 a1_0 a1_1 a1_2 a1_3 a1_4 a1_5 a1_6=some (r1,r2))∧Aside0 (kq≤k)∧Aside0 (wc.heap[gb751]?=some (.cells #[.int .i64 a1_0,.int .i64 a1_1,.int .i64 a1_2,.int .i64 a1_3,.int .i64 a1_4,.int .i64 a1_5,.string a1_6] 44 (0,0)))∧Aside0 (Below w.heap.size w wc))
 case first =>
  have H:=HC3.out
  clear HC3
  replace H:=bs_ H
  obtain ⟨t752,A50,H⟩:=H
  try dsimp only at H
  have A5:=a_ A50
  clear A50
  by_cases c6:t752=true
  ·subst c6
   have H1:((impl_EntryOk.f k a1_0 a1_1 a1_2 a1_3 a1_4 a1_5 a1_6).bind fun t753=>(impl_LogAdd.j0 k l0 (!t753) a1_0 a1_1 a1_2 a1_3 a1_4 a1_5 a1_6))=some (r1,r2):=by rw [if_pos rfl] at H;exact H
   clear H
   have H:=H1
   clear H1
   replace H:=bs_ H
   obtain ⟨t753,A70,H⟩:=H
   try dsimp only at H
   have A7:=a_ A70
   clear A70
   have H':=a_ H
   clear H
   go_wp2_with (first|((with_reducible refine gC_ (f:=42) rfl ?_);refine gl_ 8 Tryd.func42 #[.slice A0 l0.length c0] ?_;(with_reducible refine (impl_LogOk.calls k _ _ l0 true _ ?side1 ?side2 A5.out ?side3).mono ?_);(case side1=>exact cp_ HR0.out);(case side2=>exact HC0.out);(case side3=>exact Glob.below HG.out (bel_));rintro e w8 ⟨rfl,hb⟩;refine ⟨_,rfl,?_⟩;replace HB:=a_ (bS_ (bel_) hb);replace BK751:=a_ (bb_ BK751.out hb);(try clear hb);have Z9_0:=cz_ BK751.out 0 (.int .i64 a1_0);have Z9_1:=cz_ BK751.out 1 (.int .i64 a1_1);have Z9_2:=cz_ BK751.out 2 (.int .i64 a1_2);have Z9_3:=cz_ BK751.out 3 (.int .i64 a1_3);have Z9_4:=cz_ BK751.out 4 (.int .i64 a1_4);have Z9_5:=cz_ BK751.out 5 (.int .i64 a1_5);have Z9_6:=cz_ BK751.out 6 (.string a1_6);have Y9_0:=bF_ BK751.out 0;have Y9_1:=bF_ BK751.out 1;have Y9_2:=bF_ BK751.out 2;have Y9_3:=bF_ BK751.out 3;have Y9_4:=bF_ BK751.out 4;have Y9_5:=bF_ BK751.out 5;have Y9_6:=bF_ BK751.out 6)|(go_at_call 78;(with_reducible refine (impl_EntryOk.calls k a1_0 a1_1 a1_2 a1_3 a1_4 a1_5 a1_6 t753 _ A7.out ?side1).mono ?_);(case side1=>exact Glob.below HG.out (bel_));rintro e w10 ⟨rfl,hb⟩;replace HB:=a_ (bS_ (bel_) hb);replace BK751:=a_ (bb_ BK751.out hb);(try clear hb)))
   go_meet
   case rel=>exact ⟨_,(!t753),(si_),H',⟨by first|omega|exact Nat.le_refl _⟩,⟨by (with_reducible repeat (first|refine bN_ ?_ _|refine bD_ ?_|refine bA_ ?_ _));exact BK751.out⟩,⟨bel_⟩⟩
  ·replace c6:=Bool.eq_false_iff.mpr c6
   subst c6
   have H1:(impl_LogAdd.j0 k l0 true a1_0 a1_1 a1_2 a1_3 a1_4 a1_5 a1_6)=some (r1,r2):=by rw [if_neg (show ¬ (false=true) by decide)] at H;exact H
   clear H
   have H:=H1
   clear H1
   have H':=a_ H
   clear H
   go_wp2_with (first|((with_reducible refine gC_ (f:=42) rfl ?_);refine gl_ 8 Tryd.func42 #[.slice A0 l0.length c0] ?_;(with_reducible refine (impl_LogOk.calls k _ _ l0 false _ ?side1 ?side2 A5.out ?side3).mono ?_);(case side1=>exact cp_ HR0.out);(case side2=>exact HC0.out);(case side3=>exact Glob.below HG.out (bel_));rintro e w11 ⟨rfl,hb⟩;refine ⟨_,rfl,?_⟩;replace HB:=a_ (bS_ (bel_) hb);replace BK751:=a_ (bb_ BK751.out hb);(try clear hb)))
   go_meet
   case rel=>exact ⟨_,(true),(si_),H',⟨by first|omega|exact Nat.le_refl _⟩,⟨by (with_reducible repeat (first|refine bN_ ?_ _|refine bD_ ?_|refine bA_ ?_ _));exact BK751.out⟩,⟨bel_⟩⟩
 case rest =>
  clear HC3
  try clear p2
  try clear c3
  try clear c4
  try clear c6
  try clear Z9_0
  try clear Z9_1
  try clear Z9_2
  try clear Z9_3
  try clear Z9_4
  try clear Z9_5
  try clear Z9_6
  try clear Y9_0
  try clear Y9_1
  try clear Y9_2
  try clear Y9_3
  try clear Y9_4
  try clear Y9_5
  try clear Y9_6
  obtain ⟨kq,x14_2,rfl,HA,HJ2,BK751,HB⟩:=hcut
  cases kq with
  | zero=>exact absurd HA.out (by simp [impl_LogAdd.j0])
  | succ kj2 =>
   have H:=HA.out
   clear HA
   simp only [impl_LogAdd.j0] at H
   by_cases c12:x14_2=true
   ·subst c12
    have H1:(some (([]:List (S44)),(-1)))=some (r1,r2):=by rw [if_pos rfl] at H;exact H
    clear H
    have H:=H1
    clear H1
    simp only [Option.some.injEq,Prod.mk.injEq] at H
    obtain ⟨rfl,rfl⟩:=H
    go_wp2
    go_ret2
    exact ⟨_,fi_,by first|exact Kd.R_nil _ _ _ _ _|exact Kd.N_nil _ _ _ _ _|exact Kd.V_nil _ _ _ _ _|exact Kd.Q_nil _ _ _ _ _|exact Kd.S_nil _ _ _ _ _,bel_⟩
   ·replace c12:=Bool.eq_false_iff.mpr c12
    subst c12
    have H1:((impl_Entry_85.f l0).bind fun t754=>((impl_Entry_86.f kj2 l0 a1_0 a1_1 a1_2 a1_3 a1_4 a1_5 a1_6).bind fun t757=>(if t757=true then (some (t754,0)) else ((impl_LogSeq.f kj2 l0 a1_0).bind fun t758=>(if a1_1=(wrap64 (t758+1)) then (if (l0.length:Int)≥40 then (some (t754,(-1))) else (if t754.length < 2199023255552 then (some ((t754++[(⟨a1_0,a1_1,(⟨a1_2,a1_3,a1_4,a1_5,a1_6⟩:S42)⟩:S44)]),1)) else (none))) else (some (t754,(-1))))))))=some (r1,r2):=by rw [if_neg (show ¬ (false=true) by decide)] at H;exact H
    clear H
    have H:=H1
    clear H1
    replace H:=bs_ H
    obtain ⟨t754,A130,H⟩:=H
    try dsimp only at H
    have A13:=a_ A130
    clear A130
    replace H:=bs_ H
    obtain ⟨t757,A140,H⟩:=H
    try dsimp only at H
    have A14:=a_ A140
    clear A140
    by_cases c15:t757=true
    ·subst c15
     have H1:(some (t754,0))=some (r1,r2):=by rw [if_pos rfl] at H;exact H
     clear H
     have H:=H1
     clear H1
     simp only [Option.some.injEq,Prod.mk.injEq] at H
     obtain ⟨rfl,rfl⟩:=H
     go_wp2_with (first|((with_reducible refine gC_ (f:=85) rfl ?_);refine gl_ 16 Tryd.func85 #[.slice A0 l0.length c0] ?_;(with_reducible refine (impl_Entry_85.calls _ _ l0 t754 _ ?side1 ?side2 A13.out).mono ?_);(case side1=>exact cp_ HR0.out);(case side2=>exact HC0.out);rintro e w16 ⟨v755,rfl,ho0,hb⟩;refine ⟨_,rfl,?_⟩;have HO756:=a_ (Kd.R_lower (Kd.R_newB ho0 (g:=gb751) (o:=.cells #[.int .i64 a1_0,.int .i64 a1_1,.int .i64 a1_2,.int .i64 a1_3,.int .i64 a1_4,.int .i64 a1_5,.string a1_6] 44 (0,0)) (bp_ BK751.out)) (below_size (bel_)));replace HB:=a_ (bS_ (bel_) hb);replace BK751:=a_ (bb_ BK751.out hb);(try clear hb ho0);have Z17_0:=cz_ BK751.out 0 (.int .i64 a1_0);have Z17_1:=cz_ BK751.out 1 (.int .i64 a1_1);have Z17_2:=cz_ BK751.out 2 (.int .i64 a1_2);have Z17_3:=cz_ BK751.out 3 (.int .i64 a1_3);have Z17_4:=cz_ BK751.out 4 (.int .i64 a1_4);have Z17_5:=cz_ BK751.out 5 (.int .i64 a1_5);have Z17_6:=cz_ BK751.out 6 (.string a1_6);have Y17_0:=bF_ BK751.out 0;have Y17_1:=bF_ BK751.out 1;have Y17_2:=bF_ BK751.out 2;have Y17_3:=bF_ BK751.out 3;have Y17_4:=bF_ BK751.out 4;have Y17_5:=bF_ BK751.out 5;have Y17_6:=bF_ BK751.out 6)|((with_reducible refine gC_ (f:=86) rfl ?_);refine gl_ 19 Tryd.func86 #[.slice A0 l0.length c0,.agg #[.int .i64 a1_0,.int .i64 a1_1,.int .i64 a1_2,.int .i64 a1_3,.int .i64 a1_4,.int .i64 a1_5,.string a1_6]] ?_;(with_reducible refine (impl_Entry_86.calls kj2 _ _ l0 a1_0 a1_1 a1_2 a1_3 a1_4 a1_5 a1_6 true _ ?side1 ?side2 A14.out).mono ?_);(case side1=>exact cp_ HR0.out);(case side2=>exact HC0.out);rintro e w18 ⟨rfl,hb⟩;refine ⟨_,rfl,?_⟩;replace HO756:=a_ (Kd.R_below (rp_ HO756.out) hb);replace HB:=a_ (bS_ (bel_) hb);replace BK751:=a_ (bb_ BK751.out hb);(try clear hb)))
     go_ret2
     exact ⟨_,fi_,by (with_reducible repeat (first|apply Kd.R_alloc|apply Kd.R_drewN|apply Kd.R_drew));exact Kd.R_mono HO756.out (fun _ hk=>trivial),bel_⟩
    ·replace c15:=Bool.eq_false_iff.mpr c15
     subst c15
     have H1:((impl_LogSeq.f kj2 l0 a1_0).bind fun t758=>(if a1_1=(wrap64 (t758+1)) then (if (l0.length:Int)≥40 then (some (t754,(-1))) else (if t754.length < 2199023255552 then (some ((t754++[(⟨a1_0,a1_1,(⟨a1_2,a1_3,a1_4,a1_5,a1_6⟩:S42)⟩:S44)]),1)) else (none))) else (some (t754,(-1)))))=some (r1,r2):=by rw [if_neg (show ¬ (false=true) by decide)] at H;exact H
     clear H
     have H:=H1
     clear H1
     replace H:=bs_ H
     obtain ⟨t758,A190,H⟩:=H
     try dsimp only at H
     have A19:=a_ A190
     clear A190
     by_cases c20:a1_1=(wrap64 (t758+1))
     ·rw [if_pos c20] at H
      have c20b0:(a1_1==(wrap64 (t758+1)))=true:=beq_iff_eq.mpr c20
      have c20b1:(a1_1 != (wrap64 (t758+1)))=false:=be_ c20
      clear c20
      by_cases c21:(l0.length:Int)≥40
      ·rw [if_pos c21] at H
       have c21b0:decide (40≤(l0.length:Int))=true:=dt_ c21
       have c21b1:decide (40≤l0.length)=true:=dt_ (by omega)
       clear c21
       simp only [Option.some.injEq,Prod.mk.injEq] at H
       obtain ⟨rfl,rfl⟩:=H
       try go_wp2_with (first|((with_reducible refine gC_ (f:=85) rfl ?_);refine gl_ 16 Tryd.func85 #[.slice A0 l0.length c0] ?_;(with_reducible refine (impl_Entry_85.calls _ _ l0 t754 _ ?side1 ?side2 A13.out).mono ?_);(case side1=>exact cp_ HR0.out);(case side2=>exact HC0.out);rintro e w22 ⟨v755,rfl,ho0,hb⟩;refine ⟨_,rfl,?_⟩;have HO756:=a_ (Kd.R_lower (Kd.R_newB ho0 (g:=gb751) (o:=.cells #[.int .i64 a1_0,.int .i64 a1_1,.int .i64 a1_2,.int .i64 a1_3,.int .i64 a1_4,.int .i64 a1_5,.string a1_6] 44 (0,0)) (bp_ BK751.out)) (below_size (bel_)));replace HB:=a_ (bS_ (bel_) hb);replace BK751:=a_ (bb_ BK751.out hb);(try clear hb ho0);have Z23_0:=cz_ BK751.out 0 (.int .i64 a1_0);have Z23_1:=cz_ BK751.out 1 (.int .i64 a1_1);have Z23_2:=cz_ BK751.out 2 (.int .i64 a1_2);have Z23_3:=cz_ BK751.out 3 (.int .i64 a1_3);have Z23_4:=cz_ BK751.out 4 (.int .i64 a1_4);have Z23_5:=cz_ BK751.out 5 (.int .i64 a1_5);have Z23_6:=cz_ BK751.out 6 (.string a1_6);have Y23_0:=bF_ BK751.out 0;have Y23_1:=bF_ BK751.out 1;have Y23_2:=bF_ BK751.out 2;have Y23_3:=bF_ BK751.out 3;have Y23_4:=bF_ BK751.out 4;have Y23_5:=bF_ BK751.out 5;have Y23_6:=bF_ BK751.out 6)|((with_reducible refine gC_ (f:=86) rfl ?_);refine gl_ 19 Tryd.func86 #[.slice A0 l0.length c0,.agg #[.int .i64 a1_0,.int .i64 a1_1,.int .i64 a1_2,.int .i64 a1_3,.int .i64 a1_4,.int .i64 a1_5,.string a1_6]] ?_;(with_reducible refine (impl_Entry_86.calls kj2 _ _ l0 a1_0 a1_1 a1_2 a1_3 a1_4 a1_5 a1_6 false _ ?side1 ?side2 A14.out).mono ?_);(case side1=>exact cp_ HR0.out);(case side2=>exact HC0.out);rintro e w24 ⟨rfl,hb⟩;refine ⟨_,rfl,?_⟩;replace HO756:=a_ (Kd.R_below (rp_ HO756.out) hb);replace HB:=a_ (bS_ (bel_) hb);replace BK751:=a_ (bb_ BK751.out hb);(try clear hb)))
       have n0_:=a_ (Kd.R_drew HO756.out)
       have n1_:=a_ (bD_ BK751.out)
       have n2_:=a_ (below_drew1 HB.out)
       clear HO756
       clear BK751
       clear HB
       have HO756:=n0_
       have BK751:=n1_
       have HB:=n2_
       clear n0_ n1_ n2_
       refine start_ (n:=13) (S:=fun w'=>w'.cell? ⟨gb751,0,none⟩=some (.int .i64 a1_0)∧w'.cell? ⟨gb751,1,none⟩=some (.int .i64 a1_1)∧w'.cell? ⟨gb751,2,none⟩=some (.int .i64 a1_2)∧w'.cell? ⟨gb751,3,none⟩=some (.int .i64 a1_3)∧w'.cell? ⟨gb751,4,none⟩=some (.int .i64 a1_4)∧w'.cell? ⟨gb751,5,none⟩=some (.int .i64 a1_5)∧w'.cell? ⟨gb751,6,none⟩=some (.string a1_6)) (ds:=[]) #[false,false,false,false,false,false,false,false,false,false,false,false,false] (by kernel_rfl) rfl rfl ⟨(bC_ BK751.out 0).trans rfl,(bC_ BK751.out 1).trans rfl,(bC_ BK751.out 2).trans rfl,(bC_ BK751.out 3).trans rfl,(bC_ BK751.out 4).trans rfl,(bC_ BK751.out 5).trans rfl,(bC_ BK751.out 6).trans rfl⟩ (fun hHeld=>?_);refine with_tabW impl_LogAdd.tab6 impl_LogAdd.bits6 (fun HT_ HW_=>?_)
       generalize w24.drew=w25 at HO756 BK751 HB hHeld ⊢
       refine pa_ 0 21 ?_
       refine pa_ 2 23 ?_
       refine pa_ 3 24 ?_
       refine ta7_ 1 22 hHeld ?_
       refine ta7_ 4 25 hHeld ?_
       refine on_ 5 26 (fun K hK=>?_)
       refine goes_ Tryd.func33 (by kernel_rfl) rfl #[.slice A0 l0.length c0,.int .i64 a1_0] (by rfl) rfl rfl ar_ ?_
       with_reducible refine (impl_LogSeq.calls kj2 _ _ l0 a1_0 t758 _ ?side1 ?side2 A19.out ?side3).mono ?_
       (case side1=>exact cp_ HR0.out)
       (case side2=>exact HC0.out)
       (case side3=>exact Glob.below HG.out (bel_))
       rintro e w26 ⟨rfl,hb⟩
       refine ⟨_,rfl,?_⟩
       have n0_:=a_ (Kd.R_below (rp_ HO756.out) hb)
       have n1_:=a_ (bb_ BK751.out hb)
       have n2_:=a_ (bS_ (bel_) hb)
       clear HO756
       clear BK751
       clear HB
       have HO756:=n0_
       have BK751:=n1_
       have HB:=n2_
       clear n0_ n1_ n2_
       (try clear hb)
       (try clear hb2)
       (try clear hk)
       (try clear hi)
       refine hK.out _ _ ⟨(bC_ BK751.out 0).trans rfl,(bC_ BK751.out 1).trans rfl,(bC_ BK751.out 2).trans rfl,(bC_ BK751.out 3).trans rfl,(bC_ BK751.out 4).trans rfl,(bC_ BK751.out 5).trans rfl,(bC_ BK751.out 6).trans rfl⟩ (fun hHeld=>?_)
       clear hK K
       refine no_ 26 ?_
       refine pa_ 6 27 ?_
       refine pa_ 7 28 ?_
       refine pa_ 8 29 ?_
       refine pa_ 9 30 ?_
       refine pa_ 10 31 ?_
       refine pa_ 11 32 ?_
       refine pa_ 12 33 ?_
       refine done_ (done_of HT_.out (by kernel_rfl)) ?_
       try go_wp2
       go_ret2
       exact ⟨_,fi_,by (with_reducible repeat (first|apply Kd.R_alloc|apply Kd.R_drewN|apply Kd.R_drew));exact Kd.R_mono HO756.out (fun _ hk=>trivial),bel_⟩
      ·rw [if_neg c21] at H
       have c21b0:decide (40≤(l0.length:Int))=false:=df_ c21
       have c21b1:decide (40≤l0.length)=false:=df_ (by omega)
       clear c21
       by_cases c27:t754.length < 2199023255552
       ·rw [if_pos c27] at H
        have LMc27:=a_ c27
        clear c27
        obtain ⟨y759,hy759⟩:∃ y_:List (S44),y_=(t754++[(⟨a1_0,a1_1,(⟨a1_2,a1_3,a1_4,a1_5,a1_6⟩:S42)⟩:S44)]):=⟨_,rfl⟩
        replace H:(some (y759,1))=some (r1,r2):=by first|(rw [hy759];with_reducible exact H)|(have H2_:=(Option.bind_some _ _).symm.trans H;rw [hy759];with_reducible exact H2_)|(have H2_:=(Option.bind_some _ _).symm.trans H;with_reducible exact H2_)|with_reducible exact H|(rw [hy759];exact H)|exact H
        have Ny759:=a_ hy759
        clear hy759
        simp only [Option.some.injEq,Prod.mk.injEq] at H
        obtain ⟨rfl,rfl⟩:=H
        try go_wp2_with (first|((with_reducible refine gC_ (f:=85) rfl ?_);refine gl_ 16 Tryd.func85 #[.slice A0 l0.length c0] ?_;(with_reducible refine (impl_Entry_85.calls _ _ l0 t754 _ ?side1 ?side2 A13.out).mono ?_);(case side1=>exact cp_ HR0.out);(case side2=>exact HC0.out);rintro e w28 ⟨v755,rfl,ho0,hb⟩;refine ⟨_,rfl,?_⟩;have HO756:=a_ (Kd.R_lower (Kd.R_newB ho0 (g:=gb751) (o:=.cells #[.int .i64 a1_0,.int .i64 a1_1,.int .i64 a1_2,.int .i64 a1_3,.int .i64 a1_4,.int .i64 a1_5,.string a1_6] 44 (0,0)) (bp_ BK751.out)) (below_size (bel_)));replace HB:=a_ (bS_ (bel_) hb);replace BK751:=a_ (bb_ BK751.out hb);(try clear hb ho0);have Z29_0:=cz_ BK751.out 0 (.int .i64 a1_0);have Z29_1:=cz_ BK751.out 1 (.int .i64 a1_1);have Z29_2:=cz_ BK751.out 2 (.int .i64 a1_2);have Z29_3:=cz_ BK751.out 3 (.int .i64 a1_3);have Z29_4:=cz_ BK751.out 4 (.int .i64 a1_4);have Z29_5:=cz_ BK751.out 5 (.int .i64 a1_5);have Z29_6:=cz_ BK751.out 6 (.string a1_6);have Y29_0:=bF_ BK751.out 0;have Y29_1:=bF_ BK751.out 1;have Y29_2:=bF_ BK751.out 2;have Y29_3:=bF_ BK751.out 3;have Y29_4:=bF_ BK751.out 4;have Y29_5:=bF_ BK751.out 5;have Y29_6:=bF_ BK751.out 6)|((with_reducible refine gC_ (f:=86) rfl ?_);refine gl_ 19 Tryd.func86 #[.slice A0 l0.length c0,.agg #[.int .i64 a1_0,.int .i64 a1_1,.int .i64 a1_2,.int .i64 a1_3,.int .i64 a1_4,.int .i64 a1_5,.string a1_6]] ?_;(with_reducible refine (impl_Entry_86.calls kj2 _ _ l0 a1_0 a1_1 a1_2 a1_3 a1_4 a1_5 a1_6 false _ ?side1 ?side2 A14.out).mono ?_);(case side1=>exact cp_ HR0.out);(case side2=>exact HC0.out);rintro e w30 ⟨rfl,hb⟩;refine ⟨_,rfl,?_⟩;replace HO756:=a_ (Kd.R_below (rp_ HO756.out) hb);replace HB:=a_ (bS_ (bel_) hb);replace BK751:=a_ (bb_ BK751.out hb);(try clear hb)))
        have n0_:=a_ (Kd.R_drew HO756.out)
        have n1_:=a_ (bD_ BK751.out)
        have n2_:=a_ (below_drew1 HB.out)
        clear HO756
        clear BK751
        clear HB
        have HO756:=n0_
        have BK751:=n1_
        have HB:=n2_
        clear n0_ n1_ n2_
        refine start_ (n:=13) (S:=fun w'=>w'.cell? ⟨gb751,0,none⟩=some (.int .i64 a1_0)∧w'.cell? ⟨gb751,1,none⟩=some (.int .i64 a1_1)∧w'.cell? ⟨gb751,2,none⟩=some (.int .i64 a1_2)∧w'.cell? ⟨gb751,3,none⟩=some (.int .i64 a1_3)∧w'.cell? ⟨gb751,4,none⟩=some (.int .i64 a1_4)∧w'.cell? ⟨gb751,5,none⟩=some (.int .i64 a1_5)∧w'.cell? ⟨gb751,6,none⟩=some (.string a1_6)) (ds:=[]) #[false,false,false,false,false,false,false,false,false,false,false,false,false] (by kernel_rfl) rfl rfl ⟨(bC_ BK751.out 0).trans rfl,(bC_ BK751.out 1).trans rfl,(bC_ BK751.out 2).trans rfl,(bC_ BK751.out 3).trans rfl,(bC_ BK751.out 4).trans rfl,(bC_ BK751.out 5).trans rfl,(bC_ BK751.out 6).trans rfl⟩ (fun hHeld=>?_);refine with_tabW impl_LogAdd.tab6 impl_LogAdd.bits6 (fun HT_ HW_=>?_)
        generalize w30.drew=w31 at HO756 BK751 HB hHeld ⊢
        refine pa_ 0 21 ?_
        refine pa_ 2 23 ?_
        refine pa_ 3 24 ?_
        refine ta7_ 1 22 hHeld ?_
        refine ta7_ 4 25 hHeld ?_
        refine on_ 5 26 (fun K hK=>?_)
        refine goes_ Tryd.func33 (by kernel_rfl) rfl #[.slice A0 l0.length c0,.int .i64 a1_0] (by rfl) rfl rfl ar_ ?_
        with_reducible refine (impl_LogSeq.calls kj2 _ _ l0 a1_0 t758 _ ?side1 ?side2 A19.out ?side3).mono ?_
        (case side1=>exact cp_ HR0.out)
        (case side2=>exact HC0.out)
        (case side3=>exact Glob.below HG.out (bel_))
        rintro e w32 ⟨rfl,hb⟩
        refine ⟨_,rfl,?_⟩
        have n0_:=a_ (Kd.R_below (rp_ HO756.out) hb)
        have n1_:=a_ (bb_ BK751.out hb)
        have n2_:=a_ (bS_ (bel_) hb)
        clear HO756
        clear BK751
        clear HB
        have HO756:=n0_
        have BK751:=n1_
        have HB:=n2_
        clear n0_ n1_ n2_
        (try clear hb)
        (try clear hb2)
        (try clear hk)
        (try clear hi)
        refine hK.out _ _ ⟨(bC_ BK751.out 0).trans rfl,(bC_ BK751.out 1).trans rfl,(bC_ BK751.out 2).trans rfl,(bC_ BK751.out 3).trans rfl,(bC_ BK751.out 4).trans rfl,(bC_ BK751.out 5).trans rfl,(bC_ BK751.out 6).trans rfl⟩ (fun hHeld=>?_)
        clear hK K
        refine no_ 26 ?_
        refine pa_ 6 27 ?_
        refine pa_ 7 28 ?_
        refine pa_ 8 29 ?_
        refine pa_ 9 30 ?_
        refine pa_ 10 31 ?_
        refine pa_ 11 32 ?_
        refine pa_ 12 33 ?_
        refine done_ (done_of HT_.out (by kernel_rfl)) ?_
        have Z33_0:=cz_ BK751.out 0 (.int .i64 a1_0)
        have Z33_1:=cz_ BK751.out 1 (.int .i64 a1_1)
        have Z33_2:=cz_ BK751.out 2 (.int .i64 a1_2)
        have Z33_3:=cz_ BK751.out 3 (.int .i64 a1_3)
        have Z33_4:=cz_ BK751.out 4 (.int .i64 a1_4)
        have Z33_5:=cz_ BK751.out 5 (.int .i64 a1_5)
        have Z33_6:=cz_ BK751.out 6 (.string a1_6)
        have Y33_0:=bF_ BK751.out 0
        have Y33_1:=bF_ BK751.out 1
        have Y33_2:=bF_ BK751.out 2
        have Y33_3:=bF_ BK751.out 3
        have Y33_4:=bF_ BK751.out 4
        have Y33_5:=bF_ BK751.out 5
        have Y33_6:=bF_ BK751.out 6
        try go_wp2_with (first|((with_reducible refine gate_builtin (b:=.append) (xs:=#[.tmp 35,.tmp 37]) rfl ?_);at_builtin;refine Kd.R_append k44 (w0:=w) w.heap.size rfl (.tmp 35) (.tmp 37) 23 44 (.agg #[(.int .i64 0),(.int .i64 0),(.int .i64 0),(.int .i64 0),(.int .i64 0),(.int .i64 0),(.string ⟨#[]⟩)]) 64 rfl Tryd.underlying23 info44 rfl (by decide) (by omega) v755 t754 (⟨a1_0,a1_1,(⟨a1_2,a1_3,a1_4,a1_5,a1_6⟩:S42)⟩:S44) [.int .i64 a1_0,.int .i64 a1_1,.int .i64 a1_2,.int .i64 a1_3,.int .i64 a1_4,.int .i64 a1_5,.string a1_6] (fun k_=>k_≠gb751) (fun _=>False) rfl rfl ?aP (fun _ hk=>hk.elim) ?aF ?aO ?aB ?aS ?aL ?_;(case aP=>exact k44_mkM _ _ _ (⟨a1_0,a1_1,(⟨a1_2,a1_3,a1_4,a1_5,a1_6⟩:S42)⟩:S44));(case aB=>exact (bel_));(case aF=>exact (fun k_ hk=>Kd.freshB (g:=gb751) (o:=.cells #[.int .i64 a1_0,.int .i64 a1_1,.int .i64 a1_2,.int .i64 a1_3,.int .i64 a1_4,.int .i64 a1_5,.string a1_6] 44 (0,0)) (bp_ BK751.out) k_ hk));(case aO=>exact (by (with_reducible repeat (first|apply Kd.R_alloc|apply Kd.R_drewN|apply Kd.R_drew));exact Kd.R_mono HO756.out (fun _ hk=>hk.2)));(case aS=>exact (below_size (bel_)));(case aL=>have:=LMc27.out;omega);intro v760 w34 ho hb hg hat;rw [←Ny759.out] at ho;replace BK751:=a_ (blk_grown (g:=gb751) (o:=.cells #[.int .i64 a1_0,.int .i64 a1_1,.int .i64 a1_2,.int .i64 a1_3,.int .i64 a1_4,.int .i64 a1_5,.string a1_6] 44 (0,0)) (bp_ BK751.out) hg (Kd.R_away HO756.out (fun _ hk=>hk.2)));replace HB:=a_ (hb);have HO761:=a_ (ho);clear HO756;clear ho hb hg hat))
        go_ret2
        exact ⟨_,fi_,by (with_reducible repeat (first|apply Kd.R_alloc|apply Kd.R_drewN|apply Kd.R_drew));exact Kd.R_mono HO761.out (fun _ hk=>trivial),bel_⟩
       ·rw [if_neg c27] at H
        exact absurd H (by simp)
     ·rw [if_neg c20] at H
      have c20b0:(a1_1==(wrap64 (t758+1)))=false:=bn_ c20
      have c20b1:(a1_1 != (wrap64 (t758+1)))=true:=bne_iff_ne.mpr c20
      simp only [Option.some.injEq,Prod.mk.injEq] at H
      obtain ⟨rfl,rfl⟩:=H
      try go_wp2_with (first|((with_reducible refine gC_ (f:=85) rfl ?_);refine gl_ 16 Tryd.func85 #[.slice A0 l0.length c0] ?_;(with_reducible refine (impl_Entry_85.calls _ _ l0 t754 _ ?side1 ?side2 A13.out).mono ?_);(case side1=>exact cp_ HR0.out);(case side2=>exact HC0.out);rintro e w35 ⟨v755,rfl,ho0,hb⟩;refine ⟨_,rfl,?_⟩;have HO756:=a_ (Kd.R_lower (Kd.R_newB ho0 (g:=gb751) (o:=.cells #[.int .i64 a1_0,.int .i64 a1_1,.int .i64 a1_2,.int .i64 a1_3,.int .i64 a1_4,.int .i64 a1_5,.string a1_6] 44 (0,0)) (bp_ BK751.out)) (below_size (bel_)));replace HB:=a_ (bS_ (bel_) hb);replace BK751:=a_ (bb_ BK751.out hb);(try clear hb ho0);have Z36_0:=cz_ BK751.out 0 (.int .i64 a1_0);have Z36_1:=cz_ BK751.out 1 (.int .i64 a1_1);have Z36_2:=cz_ BK751.out 2 (.int .i64 a1_2);have Z36_3:=cz_ BK751.out 3 (.int .i64 a1_3);have Z36_4:=cz_ BK751.out 4 (.int .i64 a1_4);have Z36_5:=cz_ BK751.out 5 (.int .i64 a1_5);have Z36_6:=cz_ BK751.out 6 (.string a1_6);have Y36_0:=bF_ BK751.out 0;have Y36_1:=bF_ BK751.out 1;have Y36_2:=bF_ BK751.out 2;have Y36_3:=bF_ BK751.out 3;have Y36_4:=bF_ BK751.out 4;have Y36_5:=bF_ BK751.out 5;have Y36_6:=bF_ BK751.out 6)|((with_reducible refine gC_ (f:=86) rfl ?_);refine gl_ 19 Tryd.func86 #[.slice A0 l0.length c0,.agg #[.int .i64 a1_0,.int .i64 a1_1,.int .i64 a1_2,.int .i64 a1_3,.int .i64 a1_4,.int .i64 a1_5,.string a1_6]] ?_;(with_reducible refine (impl_Entry_86.calls kj2 _ _ l0 a1_0 a1_1 a1_2 a1_3 a1_4 a1_5 a1_6 false _ ?side1 ?side2 A14.out).mono ?_);(case side1=>exact cp_ HR0.out);(case side2=>exact HC0.out);rintro e w37 ⟨rfl,hb⟩;refine ⟨_,rfl,?_⟩;replace HO756:=a_ (Kd.R_below (rp_ HO756.out) hb);replace HB:=a_ (bS_ (bel_) hb);replace BK751:=a_ (bb_ BK751.out hb);(try clear hb)))
      have n0_:=a_ (Kd.R_drew HO756.out)
      have n1_:=a_ (bD_ BK751.out)
      have n2_:=a_ (below_drew1 HB.out)
      clear HO756
      clear BK751
      clear HB
      have HO756:=n0_
      have BK751:=n1_
      have HB:=n2_
      clear n0_ n1_ n2_
      refine start_ (n:=13) (S:=fun w'=>w'.cell? ⟨gb751,0,none⟩=some (.int .i64 a1_0)∧w'.cell? ⟨gb751,1,none⟩=some (.int .i64 a1_1)∧w'.cell? ⟨gb751,2,none⟩=some (.int .i64 a1_2)∧w'.cell? ⟨gb751,3,none⟩=some (.int .i64 a1_3)∧w'.cell? ⟨gb751,4,none⟩=some (.int .i64 a1_4)∧w'.cell? ⟨gb751,5,none⟩=some (.int .i64 a1_5)∧w'.cell? ⟨gb751,6,none⟩=some (.string a1_6)) (ds:=[]) #[false,false,false,false,false,false,false,false,false,false,false,false,false] (by kernel_rfl) rfl rfl ⟨(bC_ BK751.out 0).trans rfl,(bC_ BK751.out 1).trans rfl,(bC_ BK751.out 2).trans rfl,(bC_ BK751.out 3).trans rfl,(bC_ BK751.out 4).trans rfl,(bC_ BK751.out 5).trans rfl,(bC_ BK751.out 6).trans rfl⟩ (fun hHeld=>?_);refine with_tabW impl_LogAdd.tab6 impl_LogAdd.bits6 (fun HT_ HW_=>?_)
      generalize w37.drew=w38 at HO756 BK751 HB hHeld ⊢
      refine pa_ 0 21 ?_
      refine pa_ 2 23 ?_
      refine pa_ 3 24 ?_
      refine ta7_ 1 22 hHeld ?_
      refine ta7_ 4 25 hHeld ?_
      refine on_ 5 26 (fun K hK=>?_)
      refine goes_ Tryd.func33 (by kernel_rfl) rfl #[.slice A0 l0.length c0,.int .i64 a1_0] (by rfl) rfl rfl ar_ ?_
      with_reducible refine (impl_LogSeq.calls kj2 _ _ l0 a1_0 t758 _ ?side1 ?side2 A19.out ?side3).mono ?_
      (case side1=>exact cp_ HR0.out)
      (case side2=>exact HC0.out)
      (case side3=>exact Glob.below HG.out (bel_))
      rintro e w39 ⟨rfl,hb⟩
      refine ⟨_,rfl,?_⟩
      have n0_:=a_ (Kd.R_below (rp_ HO756.out) hb)
      have n1_:=a_ (bb_ BK751.out hb)
      have n2_:=a_ (bS_ (bel_) hb)
      clear HO756
      clear BK751
      clear HB
      have HO756:=n0_
      have BK751:=n1_
      have HB:=n2_
      clear n0_ n1_ n2_
      (try clear hb)
      (try clear hb2)
      (try clear hk)
      (try clear hi)
      refine hK.out _ _ ⟨(bC_ BK751.out 0).trans rfl,(bC_ BK751.out 1).trans rfl,(bC_ BK751.out 2).trans rfl,(bC_ BK751.out 3).trans rfl,(bC_ BK751.out 4).trans rfl,(bC_ BK751.out 5).trans rfl,(bC_ BK751.out 6).trans rfl⟩ (fun hHeld=>?_)
      clear hK K
      refine no_ 26 ?_
      refine pa_ 6 27 ?_
      refine pa_ 7 28 ?_
      refine pa_ 8 29 ?_
      refine po_ 9 30 ?_
      refine po_ 10 31 ?_
      refine po_ 11 32 ?_
      refine pa_ 12 33 ?_
      refine done_ (done_of HT_.out (by kernel_rfl)) ?_
      try go_wp2
      go_ret2
      exact ⟨_,fi_,by (with_reducible repeat (first|apply Kd.R_alloc|apply Kd.R_drewN|apply Kd.R_drew));exact Kd.R_mono HO756.out (fun _ hk=>trivial),bel_⟩

end Go.Proofs.YtdpklbomhdpimaaDoor.P
namespace Go.Proofs.YtdpklbomhdpimaaDoor.P
open Go.RowKit Go.Proofs.YtdpklbomhdpimaaDoorW.PrintWords Go.Proofs.YtdpklbomhdpimaaDoorW.PrintLast Go.Proofs.YtdpklbomhdpimaaDoorW.PrintMore
theorem Glob.keep {g:Nat} {w w':World} (h:Glob w) (k:Keep g w w') (hg:0 < g):Glob w':=by
 have h:=h.var
 unfold Glob Lib.TabIs World.var? at *
 simp only [gOwners,Option.bind_some] at h ⊢
 rw [k.1.block 0 hg]
 exact h
theorem take_any (k:Nat) (g:Nat) (A:Option Addr) (c:Nat) (l:List S44) (Q:Value) (s:Int) (u:Bool) (e:S44) (r1:List S44) (r2:Int) (w:World) (base:Nat) (hb:w.heap[g]?=some (.cells #[.slice A l.length c,Q,.int .i64 s,.bool u] 107 (0,0)))
  (hr:Kd.R k44 44 w base (fun k=>k≠g) (.slice A l.length c) l) (h:impl_LogAdd.f k l e.f0 e.f1 e.f2.f0 e.f2.f1 e.f2.f2 e.f2.f3 e.f2.f4=some (r1,r2)) (hG:Glob w) :
  Calls Tryd.prog 119 #[.pointer (some ⟨g,0,none⟩),.agg #[.int .i64 e.f0,.int .i64 e.f1,.int .i64 e.f2.f0,.int .i64 e.f2.f1,.int .i64 e.f2.f2,.int .i64 e.f2.f3,.string e.f2.f4]] w fun x w'=>x=.returned (.bool (decide (r2=1)))∧(∃ (A':Option Addr) (c':Nat),w'.heap[g]?=some (.cells #[.slice A' (if r2=1 then r1 else l).length c',Q,.int .i64 s,.bool u] 107 (0,0))∧Kd.R k44 44 w' (min base w.heap.size) (fun k=>k≠g) (.slice A' (if r2=1 then r1 else l).length c') (if r2=1 then r1 else l))∧Keep g w w':=by
 have HBK:=a_ hb
 have HR:=a_ hr
 have HGL:=a_ (blk_lt hb)
 have HA:=a_ h
 have HG:=a_ hG
 obtain ⟨_,hc0,hr0⟩:=Kd.R_reads' hr
 have HC:=a_ hc0
 have HR0:=a_ hr0
 clear hb hr h hG hc0 hr0
 have hu1:=Tryd.underlying103
 have hu2:=Tryd.underlying44
 by_cases h2:r2=1
 ·subst h2
  simp only [if_true,decide_true]
  go_enter Tryd.func119,Tryd.ntmps119
  go_wp2_with (first|((with_reducible refine gD_ (N:=3) rfl ?_);refine bx_ 3 (#[.int .i64 e.f0,.int .i64 e.f1,.int .i64 e.f2.f0,.int .i64 e.f2.f1,.int .i64 e.f2.f2,.int .i64 e.f2.f3,.string e.f2.f4]) 44 ?_;intro g1 hg1 w1 hbox1 hb1;have HB1:=a_ hb1;have BK1:=a_ hbox1;have HBK1:=a_ (blk_below HBK.out hb1);clear hb1 hbox1 hg1))
  have hx0:w1.cell? ⟨g1,0,none⟩=some (.int .i64 e.f0):=(bC_ BK1.out 0).trans rfl
  have hx1:w1.cell? ⟨g1,1,none⟩=some (.int .i64 e.f1):=(bC_ BK1.out 1).trans rfl
  have hx2:w1.cell? ⟨g1,2,none⟩=some (.int .i64 e.f2.f0):=(bC_ BK1.out 2).trans rfl
  have hx3:w1.cell? ⟨g1,3,none⟩=some (.int .i64 e.f2.f1):=(bC_ BK1.out 3).trans rfl
  have hx4:w1.cell? ⟨g1,4,none⟩=some (.int .i64 e.f2.f2):=(bC_ BK1.out 4).trans rfl
  have hx5:w1.cell? ⟨g1,5,none⟩=some (.int .i64 e.f2.f3):=(bC_ BK1.out 5).trans rfl
  have hx6:w1.cell? ⟨g1,6,none⟩=some (.string e.f2.f4):=(bC_ BK1.out 6).trans rfl
  have hy0:w1.cell? ⟨g,0,none⟩=some (.slice A l.length c):=(bC_ HBK1.out 0).trans rfl
  have HBd:=a_ (below_drew1 HB1.out)
  have HBKd:=a_ (bD_ HBK1.out)
  go_region_with (go_at_call 31;refine (impl_LogAdd.calls k _ _ l _ _ _ _ _ _ _ r1 _ _ (Kd.C_below HR0.out HBd.out) HC.out HA.out (HG.out.below HBd.out)).mono ?_;rintro x5 w5 ⟨v5,rfl,ho5,hb5⟩;obtain ⟨A5,c5,rfl⟩:=Kd.R_slice ho5;have HO5:=a_ ho5;have HB5:=a_ (bS_ HBd.out hb5);have HBK5:=a_ (blk_below HBKd.out hb5);have hz5:=bF_ HBK5.out 0;have hy5:=(bC_ HBK5.out 0).trans rfl;clear ho5 hb5)
  all_goals go_wp2
  all_goals go_ret
  all_goals exact ⟨rfl,⟨A5,c5,(blk_set HBK5.out 0 _).trans rfl,Kd.R_far (Kd.R_mono (Kd.R_lower (Kd.R_newB HO5.out HBKd.out) (Nat.le_trans (Nat.min_le_right _ _) HBd.out.size)) (fun k hk=>hk.2)) (p:=⟨g,0,none⟩) (fun _ h=>h) _⟩,(Keep.of_below HB5.out (Nat.le_of_lt HGL.out)).set 0 _⟩
 ·simp only [h2,if_false,decide_false]
  have hn2:(r2==1)=false:=by simpa using h2
  go_enter Tryd.func119,Tryd.ntmps119
  go_wp2_with (first|((with_reducible refine gD_ (N:=3) rfl ?_);refine bx_ 3 (#[.int .i64 e.f0,.int .i64 e.f1,.int .i64 e.f2.f0,.int .i64 e.f2.f1,.int .i64 e.f2.f2,.int .i64 e.f2.f3,.string e.f2.f4]) 44 ?_;intro g1 hg1 w1 hbox1 hb1;have HB1:=a_ hb1;have BK1:=a_ hbox1;have HBK1:=a_ (blk_below HBK.out hb1);clear hb1 hbox1 hg1))
  have hx0:w1.cell? ⟨g1,0,none⟩=some (.int .i64 e.f0):=(bC_ BK1.out 0).trans rfl
  have hx1:w1.cell? ⟨g1,1,none⟩=some (.int .i64 e.f1):=(bC_ BK1.out 1).trans rfl
  have hx2:w1.cell? ⟨g1,2,none⟩=some (.int .i64 e.f2.f0):=(bC_ BK1.out 2).trans rfl
  have hx3:w1.cell? ⟨g1,3,none⟩=some (.int .i64 e.f2.f1):=(bC_ BK1.out 3).trans rfl
  have hx4:w1.cell? ⟨g1,4,none⟩=some (.int .i64 e.f2.f2):=(bC_ BK1.out 4).trans rfl
  have hx5:w1.cell? ⟨g1,5,none⟩=some (.int .i64 e.f2.f3):=(bC_ BK1.out 5).trans rfl
  have hx6:w1.cell? ⟨g1,6,none⟩=some (.string e.f2.f4):=(bC_ BK1.out 6).trans rfl
  have hy0:w1.cell? ⟨g,0,none⟩=some (.slice A l.length c):=(bC_ HBK1.out 0).trans rfl
  have HBd:=a_ (below_drew1 HB1.out)
  have HBKd:=a_ (bD_ HBK1.out)
  go_region_with (go_at_call 31;refine (impl_LogAdd.calls k _ _ l _ _ _ _ _ _ _ r1 _ _ (Kd.C_below HR0.out HBd.out) HC.out HA.out (HG.out.below HBd.out)).mono ?_;rintro x5 w5 ⟨v5,rfl,ho5,hb5⟩;obtain ⟨A5,c5,rfl⟩:=Kd.R_slice ho5;have HO5:=a_ ho5;have HB5:=a_ (bS_ HBd.out hb5);have HBK5:=a_ (blk_below HBKd.out hb5);have hz5:=bF_ HBK5.out 0;have hy5:=(bC_ HBK5.out 0).trans rfl;clear ho5 hb5)
  all_goals go_wp2
  all_goals go_ret
  all_goals exact ⟨rfl,⟨A,c,HBK5.out,Kd.R_lower (Kd.R_below HR.out HB5.out) (Nat.min_le_left _ _)⟩,Keep.of_below HB5.out (Nat.le_of_lt HGL.out)⟩
def DrainFin (w:World) (g:Nat) (L:List S44) (s:Int) (u:Bool) (wr:World):Prop :=
 ∃ (A:Option Addr) (c:Nat) (A2:Option Addr) (c2:Nat),wr.heap[g]?=some (.cells #[.slice A L.length c,.slice A2 0 c2,.int .i64 s,.bool u] 107 (0,0))∧Kd.R k44 44 wr 0 (fun k=>k≠g) (.slice A L.length c) L∧Keep g w wr
def DrainRel (w:World) (g:Nat) (l L:List S44) (s:Int) (u:Bool) (e:S44) (n:Int) (t3 t4 t5:Value) (wr:World):Prop :=
 (t5=.bool true∧t3=.int .i64 0∧(∃ gE,t4=.pointer (some ⟨gE,0,none⟩)∧wr.heap[gE]?=some (.cells #[.int .i64 e.f0,.int .i64 e.f1,.int .i64 e.f2.f0,.int .i64 e.f2.f1,.int .i64 e.f2.f2,.int .i64 e.f2.f3,.string e.f2.f4] 44 (0,0))∧w.heap.size≤gE)∧DrainFin w g l s u wr)∨(t5=.bool false∧t3=.int .i64 n∧DrainFin w g L s u wr)
theorem Keep.drew {g:Nat} {w w1:World} (h:Keep g w w1):Keep g w w1.drew:=⟨⟨h.1.os,h.1.tape,h.1.output,h.1.size,h.1.block⟩,keep_drew h.2⟩
theorem take_yes (k:Nat) (g:Nat) (A:Option Addr) (c:Nat) (l:List S44) (Q:Value) (s:Int) (u:Bool) (e:S44) (r1:List S44) (r2:Int) (h2:r2=1) (w:World) (base:Nat) (hb:w.heap[g]?=some (.cells #[.slice A l.length c,Q,.int .i64 s,.bool u] 107 (0,0)))
  (hr:Kd.R k44 44 w base (fun k=>k≠g) (.slice A l.length c) l) (h:impl_LogAdd.f k l e.f0 e.f1 e.f2.f0 e.f2.f1 e.f2.f2 e.f2.f3 e.f2.f4=some (r1,r2)) (hG:Glob w) :
  Calls Tryd.prog 119 #[.pointer (some ⟨g,0,none⟩),.agg #[.int .i64 e.f0,.int .i64 e.f1,.int .i64 e.f2.f0,.int .i64 e.f2.f1,.int .i64 e.f2.f2,.int .i64 e.f2.f3,.string e.f2.f4]] w fun x w'=>x=.returned (.bool true)∧(∃ (A':Option Addr) (c':Nat),w'.heap[g]?=some (.cells #[.slice A' r1.length c',Q,.int .i64 s,.bool u] 107 (0,0))∧Kd.R k44 44 w' (min base w.heap.size) (fun k=>k≠g) (.slice A' r1.length c') r1)∧Keep g w w' :=
 (take_any k g A c l Q s u e r1 r2 w base hb hr h hG).mono (by rintro x w' ⟨a,⟨A',c',hb,hr⟩,hk⟩;simp only [if_pos h2] at hb hr;exact ⟨by rw [a,dt_ h2],⟨A',c',hb,hr⟩,hk⟩)
theorem take_no (k:Nat) (g:Nat) (A:Option Addr) (c:Nat) (l:List S44) (Q:Value) (s:Int) (u:Bool) (e:S44) (r1:List S44) (r2:Int) (h2:r2≠1) (w:World) (base:Nat) (hb:w.heap[g]?=some (.cells #[.slice A l.length c,Q,.int .i64 s,.bool u] 107 (0,0)))
  (hr:Kd.R k44 44 w base (fun k=>k≠g) (.slice A l.length c) l) (h:impl_LogAdd.f k l e.f0 e.f1 e.f2.f0 e.f2.f1 e.f2.f2 e.f2.f3 e.f2.f4=some (r1,r2)) (hG:Glob w) :
  Calls Tryd.prog 119 #[.pointer (some ⟨g,0,none⟩),.agg #[.int .i64 e.f0,.int .i64 e.f1,.int .i64 e.f2.f0,.int .i64 e.f2.f1,.int .i64 e.f2.f2,.int .i64 e.f2.f3,.string e.f2.f4]] w fun x w'=>x=.returned (.bool false)∧(∃ (A':Option Addr) (c':Nat),w'.heap[g]?=some (.cells #[.slice A' l.length c',Q,.int .i64 s,.bool u] 107 (0,0))∧Kd.R k44 44 w' (min base w.heap.size) (fun k=>k≠g) (.slice A' l.length c') l)∧Keep g w w' :=
 (take_any k g A c l Q s u e r1 r2 w base hb hr h hG).mono (by rintro x w' ⟨a,⟨A',c',hb,hr⟩,hk⟩;simp only [if_neg h2] at hb hr;exact ⟨by rw [a,df_ h2],⟨A',c',hb,hr⟩,hk⟩)
def boolN (v:Value):Nat:=match v with|.bool true=>1|_=>0
theorem drain_down (k:Nat) (g:Nat) (A:Option Addr) (c:Nat) (l:List S44) (A1:Option Addr) (c1:Nat) (s:Int) (e:S44)  (w:World) (base base1:Nat) (hb:w.heap[g]?=some (.cells #[.slice A l.length c,.slice A1 1 c1,.int .i64 s,.bool false] 107 (0,0)))
  (hr:Kd.R k44 44 w base (fun k=>k≠g) (.slice A l.length c) l) (hq:Kd.R k44 44 w base1 (fun k=>k≠g) (.slice A1 1 c1) [e])  :
  Calls Tryd.prog 81 #[.pointer (some ⟨g,0,none⟩)] w fun x w'=>x=.returned (.int .i64 0)∧DrainFin w g l s false w':=by
 have HBK:=a_ hb
 have HR:=a_ hr
 have HQ:=a_ hq
 skip
 have HGL:=a_ (blk_lt hb)
 clear hb hr hq
 have hu1:=Tryd.underlying107
 have hu2:=Tryd.underlying44
 go_enter Tryd.func81,Tryd.ntmps81
 go_wp2_with (first|(go_at_call 118;refine (pop_one g _ A1 c1 s false e _ HBK.out base1 HQ.out).mono ?_;rintro x w1 ⟨rfl,⟨A2,c2,hb1⟩,hk1⟩;have HBK1:=a_ hb1;have HK1:=a_ hk1;clear hb1 hk1)|((with_reducible refine gD_ (N:=4) rfl ?_);refine bx_ 4 (#[.int .i64 0,.int .i64 0,.int .i64 0,.int .i64 0,.int .i64 0,.int .i64 0,.string ⟨#[]⟩]) 44 ?_;intro g8 hg8 w8 hbox8 hb8;have HBK8:=a_ (blk_below HBK1.out hb8);have BK8:=a_ hbox8;have HK8:=a_ (HK1.out.trans (Keep.of_below hb8 (Nat.le_trans (Nat.le_of_lt HGL.out) HK1.out.1.size)));have GE8:=a_ (show w.heap.size≤g8 by rw [hg8];exact HK1.out.1.size);have NE8:=a_ (show g≠g8 by have:=HGL.out;have:=GE8.out;omega);have hz0:=(bC_ BK8.out 0).trans rfl;have hf0:=bF_ BK8.out 0;have hz1:=(bC_ BK8.out 1).trans rfl;have hf1:=bF_ BK8.out 1;have hz2:=(bC_ BK8.out 2).trans rfl;have hf2:=bF_ BK8.out 2;have hz3:=(bC_ BK8.out 3).trans rfl;have hf3:=bF_ BK8.out 3;have hz4:=(bC_ BK8.out 4).trans rfl;have hf4:=bF_ BK8.out 4;have hz5:=(bC_ BK8.out 5).trans rfl;have hf5:=bF_ BK8.out 5;have hz6:=(bC_ BK8.out 6).trans rfl;have hf6:=bF_ BK8.out 6;clear hbox8 hb8 hg8))
 go_loopw [3,4,5] (fun t3 t4 t5 wr=>DrainRel w g l l s false e 0 t3 t4 t5 wr) (fun _ _ t5 _=>boolN t5)
 case atStart=>exact .inl ⟨rfl,rfl,⟨g8,rfl,(blk_set (blk_set (blk_set (blk_set (blk_set (blk_set (blk_set (BK8.out) 0 _) 1 _) 2 _) 3 _) 4 _) 5 _) 6 _).trans rfl,GE8.out⟩,A,c,A2,c2,(blk_far (blk_far (blk_far (blk_far (blk_far (blk_far (blk_far (HBK8.out) NE8.out _) NE8.out _) NE8.out _) NE8.out _) NE8.out _) NE8.out _) NE8.out _).trans rfl,Kd.R_keep (Kd.R_lower HR.out (Nat.zero_le _)) (Keep.far (Keep.far (Keep.far (Keep.far (Keep.far (Keep.far (Keep.far (HK8.out) (p:=⟨g8,0,none⟩) (Nat.le_of_lt HGL.out) GE8.out _) (p:=⟨g8,1,none⟩) (Nat.le_of_lt HGL.out) GE8.out _) (p:=⟨g8,2,none⟩) (Nat.le_of_lt HGL.out) GE8.out _) (p:=⟨g8,3,none⟩) (Nat.le_of_lt HGL.out) GE8.out _) (p:=⟨g8,4,none⟩) (Nat.le_of_lt HGL.out) GE8.out _) (p:=⟨g8,5,none⟩) (Nat.le_of_lt HGL.out) GE8.out _) (p:=⟨g8,6,none⟩) (Nat.le_of_lt HGL.out) GE8.out _).2 (fun _ h=>h),Keep.far (Keep.far (Keep.far (Keep.far (Keep.far (Keep.far (Keep.far (HK8.out) (p:=⟨g8,0,none⟩) (Nat.le_of_lt HGL.out) GE8.out _) (p:=⟨g8,1,none⟩) (Nat.le_of_lt HGL.out) GE8.out _) (p:=⟨g8,2,none⟩) (Nat.le_of_lt HGL.out) GE8.out _) (p:=⟨g8,3,none⟩) (Nat.le_of_lt HGL.out) GE8.out _) (p:=⟨g8,4,none⟩) (Nat.le_of_lt HGL.out) GE8.out _) (p:=⟨g8,5,none⟩) (Nat.le_of_lt HGL.out) GE8.out _) (p:=⟨g8,6,none⟩) (Nat.le_of_lt HGL.out) GE8.out _⟩
 case round =>
  rcases hrel with ⟨rfl,rfl,⟨gE,rfl,hE,hgE⟩,A3,c3,A4,c4,hb3,hr3,hk3⟩|⟨rfl,rfl,hF⟩
  ·have HE:=a_ hE
   have HB3:=a_ hb3
   have HR3:=a_ hr3
   have HK3:=a_ hk3
   have GLR:=a_ (blk_lt hb3)
   have hup:wr.cell? ⟨g,3,none⟩=some (.bool false):=(bC_ hb3 3).trans rfl
   have he0:=(bC_ hE 0).trans rfl
   have he1:=(bC_ hE 1).trans rfl
   have he2:=(bC_ hE 2).trans rfl
   have he3:=(bC_ hE 3).trans rfl
   have he4:=(bC_ hE 4).trans rfl
   have he5:=(bC_ hE 5).trans rfl
   have he6:=(bC_ hE 6).trans rfl
   clear hE hb3 hr3 hk3
   go_wp2
   go_quiet (fail)
   go_wp2_with (first|((with_reducible refine gD_ (N:=4) rfl ?_);refine bx_ 4 (#[.int .i64 0,.int .i64 0,.int .i64 0,.int .i64 0,.int .i64 0,.int .i64 0,.string ⟨#[]⟩]) 44 ?_;intro g8 hg8 w8 hbox8 hb8;have HBK8:=a_ (blk_below (bN_ HB3.out _) hb8);have BK8:=a_ hbox8;have HK8:=a_ (((Keep.of_below (Below.refl wr.heap.size wr) (Nat.le_of_lt GLR.out)).drewN _).trans (Keep.of_below hb8 (Nat.le_of_lt GLR.out)));have GW8:=a_ (show wr.heap.size≤g8 from Nat.le_of_eq hg8.symm);have GE8:=a_ (show w.heap.size≤g8 by rw [hg8];exact HK3.out.1.size);have NE8:=a_ (show g≠g8 by have:=HGL.out;have:=GE8.out;omega);have hz0:=(bC_ BK8.out 0).trans rfl;have hf0:=bF_ BK8.out 0;have hz1:=(bC_ BK8.out 1).trans rfl;have hf1:=bF_ BK8.out 1;have hz2:=(bC_ BK8.out 2).trans rfl;have hf2:=bF_ BK8.out 2;have hz3:=(bC_ BK8.out 3).trans rfl;have hf3:=bF_ BK8.out 3;have hz4:=(bC_ BK8.out 4).trans rfl;have hf4:=bF_ BK8.out 4;have hz5:=(bC_ BK8.out 5).trans rfl;have hf5:=bF_ BK8.out 5;have hz6:=(bC_ BK8.out 6).trans rfl;have hf6:=bF_ BK8.out 6;clear hbox8 hb8 hg8)|(go_at_call 118;refine (pop_none g _ A4 c4 s false _ ((blk_far (blk_far (blk_far (blk_far (blk_far (blk_far (blk_far (HBK8.out) NE8.out _) NE8.out _) NE8.out _) NE8.out _) NE8.out _) NE8.out _) NE8.out _).trans rfl)).mono ?_;rintro x w9 ⟨rfl,hb9⟩;have HBK9:=a_ (blk_below (blk_far (blk_far (blk_far (blk_far (blk_far (blk_far (blk_far (HBK8.out) NE8.out _) NE8.out _) NE8.out _) NE8.out _) NE8.out _) NE8.out _) NE8.out _) hb9);have BK9:=a_ (blk_below (blk_set (blk_set (blk_set (blk_set (blk_set (blk_set (blk_set (BK8.out) 0 _) 1 _) 2 _) 3 _) 4 _) 5 _) 6 _) hb9);have HK9:=a_ ((Keep.far (Keep.far (Keep.far (Keep.far (Keep.far (Keep.far (Keep.far (HK8.out) (p:=⟨g8,0,none⟩) (Nat.le_of_lt GLR.out) GW8.out _) (p:=⟨g8,1,none⟩) (Nat.le_of_lt GLR.out) GW8.out _) (p:=⟨g8,2,none⟩) (Nat.le_of_lt GLR.out) GW8.out _) (p:=⟨g8,3,none⟩) (Nat.le_of_lt GLR.out) GW8.out _) (p:=⟨g8,4,none⟩) (Nat.le_of_lt GLR.out) GW8.out _) (p:=⟨g8,5,none⟩) (Nat.le_of_lt GLR.out) GW8.out _) (p:=⟨g8,6,none⟩) (Nat.le_of_lt GLR.out) GW8.out _).trans (Keep.of_below hb9 (Nat.le_trans (Nat.le_of_lt GLR.out) (Keep.far (Keep.far (Keep.far (Keep.far (Keep.far (Keep.far (Keep.far (HK8.out) (p:=⟨g8,0,none⟩) (Nat.le_of_lt GLR.out) GW8.out _) (p:=⟨g8,1,none⟩) (Nat.le_of_lt GLR.out) GW8.out _) (p:=⟨g8,2,none⟩) (Nat.le_of_lt GLR.out) GW8.out _) (p:=⟨g8,3,none⟩) (Nat.le_of_lt GLR.out) GW8.out _) (p:=⟨g8,4,none⟩) (Nat.le_of_lt GLR.out) GW8.out _) (p:=⟨g8,5,none⟩) (Nat.le_of_lt GLR.out) GW8.out _) (p:=⟨g8,6,none⟩) (Nat.le_of_lt GLR.out) GW8.out _).1.size)));have hv0:=(bC_ BK9.out 0).trans rfl;have hw0:=bF_ BK9.out 0;have hv1:=(bC_ BK9.out 1).trans rfl;have hw1:=bF_ BK9.out 1;have hv2:=(bC_ BK9.out 2).trans rfl;have hw2:=bF_ BK9.out 2;have hv3:=(bC_ BK9.out 3).trans rfl;have hw3:=bF_ BK9.out 3;have hv4:=(bC_ BK9.out 4).trans rfl;have hw4:=bF_ BK9.out 4;have hv5:=(bC_ BK9.out 5).trans rfl;have hw5:=bF_ BK9.out 5;have hv6:=(bC_ BK9.out 6).trans rfl;have hw6:=bF_ BK9.out 6;clear hb9))
   refine ⟨.inr ⟨rfl,rfl,A3,c3,A4,c4,(blk_far (blk_far (blk_far (blk_far (blk_far (blk_far (blk_far (HBK9.out) NE8.out _) NE8.out _) NE8.out _) NE8.out _) NE8.out _) NE8.out _) NE8.out _).trans rfl,Kd.R_keep HR3.out (Keep.far (Keep.far (Keep.far (Keep.far (Keep.far (Keep.far (Keep.far (HK9.out) (p:=⟨g8,0,none⟩) (Nat.le_of_lt GLR.out) GW8.out _) (p:=⟨g8,1,none⟩) (Nat.le_of_lt GLR.out) GW8.out _) (p:=⟨g8,2,none⟩) (Nat.le_of_lt GLR.out) GW8.out _) (p:=⟨g8,3,none⟩) (Nat.le_of_lt GLR.out) GW8.out _) (p:=⟨g8,4,none⟩) (Nat.le_of_lt GLR.out) GW8.out _) (p:=⟨g8,5,none⟩) (Nat.le_of_lt GLR.out) GW8.out _) (p:=⟨g8,6,none⟩) (Nat.le_of_lt GLR.out) GW8.out _).2 (fun _ h=>h),HK3.out.trans (Keep.far (Keep.far (Keep.far (Keep.far (Keep.far (Keep.far (Keep.far (HK9.out) (p:=⟨g8,0,none⟩) (Nat.le_of_lt GLR.out) GW8.out _) (p:=⟨g8,1,none⟩) (Nat.le_of_lt GLR.out) GW8.out _) (p:=⟨g8,2,none⟩) (Nat.le_of_lt GLR.out) GW8.out _) (p:=⟨g8,3,none⟩) (Nat.le_of_lt GLR.out) GW8.out _) (p:=⟨g8,4,none⟩) (Nat.le_of_lt GLR.out) GW8.out _) (p:=⟨g8,5,none⟩) (Nat.le_of_lt GLR.out) GW8.out _) (p:=⟨g8,6,none⟩) (Nat.le_of_lt GLR.out) GW8.out _)⟩,by simp [boolN]⟩
  ·go_wp2
   go_ret
   exact ⟨rfl,hF⟩
theorem drain_yes (k:Nat) (g:Nat) (A:Option Addr) (c:Nat) (l:List S44) (A1:Option Addr) (c1:Nat) (s:Int) (e:S44) (r1:List S44) (r2:Int) (h2:r2=1) (w:World) (base base1:Nat) (hb:w.heap[g]?=some (.cells #[.slice A l.length c,.slice A1 1 c1,.int .i64 s,.bool true] 107 (0,0)))
  (hr:Kd.R k44 44 w base (fun k=>k≠g) (.slice A l.length c) l) (hq:Kd.R k44 44 w base1 (fun k=>k≠g) (.slice A1 1 c1) [e]) (h:impl_LogAdd.f k l e.f0 e.f1 e.f2.f0 e.f2.f1 e.f2.f2 e.f2.f3 e.f2.f4=some (r1,r2)) (hG:Glob w) (h0:0 < g) :
  Calls Tryd.prog 81 #[.pointer (some ⟨g,0,none⟩)] w fun x w'=>x=.returned (.int .i64 1)∧DrainFin w g r1 s true w':=by
 have HBK:=a_ hb
 have HR:=a_ hr
 have HQ:=a_ hq
 have HA:=a_ h
 have HG:=a_ hG
 have H0:=a_ h0
 have H2:=a_ h2
 clear h hG h0 h2
 have HGL:=a_ (blk_lt hb)
 clear hb hr hq
 have hu1:=Tryd.underlying107
 have hu2:=Tryd.underlying44
 go_enter Tryd.func81,Tryd.ntmps81
 go_wp2_with (first|(go_at_call 118;refine (pop_one g _ A1 c1 s true e _ HBK.out base1 HQ.out).mono ?_;rintro x w1 ⟨rfl,⟨A2,c2,hb1⟩,hk1⟩;have HBK1:=a_ hb1;have HK1:=a_ hk1;clear hb1 hk1)|((with_reducible refine gD_ (N:=4) rfl ?_);refine bx_ 4 (#[.int .i64 0,.int .i64 0,.int .i64 0,.int .i64 0,.int .i64 0,.int .i64 0,.string ⟨#[]⟩]) 44 ?_;intro g8 hg8 w8 hbox8 hb8;have HBK8:=a_ (blk_below HBK1.out hb8);have BK8:=a_ hbox8;have HK8:=a_ (HK1.out.trans (Keep.of_below hb8 (Nat.le_trans (Nat.le_of_lt HGL.out) HK1.out.1.size)));have GE8:=a_ (show w.heap.size≤g8 by rw [hg8];exact HK1.out.1.size);have NE8:=a_ (show g≠g8 by have:=HGL.out;have:=GE8.out;omega);have hz0:=(bC_ BK8.out 0).trans rfl;have hf0:=bF_ BK8.out 0;have hz1:=(bC_ BK8.out 1).trans rfl;have hf1:=bF_ BK8.out 1;have hz2:=(bC_ BK8.out 2).trans rfl;have hf2:=bF_ BK8.out 2;have hz3:=(bC_ BK8.out 3).trans rfl;have hf3:=bF_ BK8.out 3;have hz4:=(bC_ BK8.out 4).trans rfl;have hf4:=bF_ BK8.out 4;have hz5:=(bC_ BK8.out 5).trans rfl;have hf5:=bF_ BK8.out 5;have hz6:=(bC_ BK8.out 6).trans rfl;have hf6:=bF_ BK8.out 6;clear hbox8 hb8 hg8))
 go_loopw [3,4,5] (fun t3 t4 t5 wr=>DrainRel w g l r1 s true e 1 t3 t4 t5 wr) (fun _ _ t5 _=>boolN t5)
 case atStart=>exact .inl ⟨rfl,rfl,⟨g8,rfl,(blk_set (blk_set (blk_set (blk_set (blk_set (blk_set (blk_set (BK8.out) 0 _) 1 _) 2 _) 3 _) 4 _) 5 _) 6 _).trans rfl,GE8.out⟩,A,c,A2,c2,(blk_far (blk_far (blk_far (blk_far (blk_far (blk_far (blk_far (HBK8.out) NE8.out _) NE8.out _) NE8.out _) NE8.out _) NE8.out _) NE8.out _) NE8.out _).trans rfl,Kd.R_keep (Kd.R_lower HR.out (Nat.zero_le _)) (Keep.far (Keep.far (Keep.far (Keep.far (Keep.far (Keep.far (Keep.far (HK8.out) (p:=⟨g8,0,none⟩) (Nat.le_of_lt HGL.out) GE8.out _) (p:=⟨g8,1,none⟩) (Nat.le_of_lt HGL.out) GE8.out _) (p:=⟨g8,2,none⟩) (Nat.le_of_lt HGL.out) GE8.out _) (p:=⟨g8,3,none⟩) (Nat.le_of_lt HGL.out) GE8.out _) (p:=⟨g8,4,none⟩) (Nat.le_of_lt HGL.out) GE8.out _) (p:=⟨g8,5,none⟩) (Nat.le_of_lt HGL.out) GE8.out _) (p:=⟨g8,6,none⟩) (Nat.le_of_lt HGL.out) GE8.out _).2 (fun _ h=>h),Keep.far (Keep.far (Keep.far (Keep.far (Keep.far (Keep.far (Keep.far (HK8.out) (p:=⟨g8,0,none⟩) (Nat.le_of_lt HGL.out) GE8.out _) (p:=⟨g8,1,none⟩) (Nat.le_of_lt HGL.out) GE8.out _) (p:=⟨g8,2,none⟩) (Nat.le_of_lt HGL.out) GE8.out _) (p:=⟨g8,3,none⟩) (Nat.le_of_lt HGL.out) GE8.out _) (p:=⟨g8,4,none⟩) (Nat.le_of_lt HGL.out) GE8.out _) (p:=⟨g8,5,none⟩) (Nat.le_of_lt HGL.out) GE8.out _) (p:=⟨g8,6,none⟩) (Nat.le_of_lt HGL.out) GE8.out _⟩
 case round =>
  rcases hrel with ⟨rfl,rfl,⟨gE,rfl,hE,hgE⟩,A3,c3,A4,c4,hb3,hr3,hk3⟩|⟨rfl,rfl,hF⟩
  ·have HE:=a_ hE
   have NEE:=a_ (show gE≠g by have:=HGL.out;omega)
   have HB3:=a_ hb3
   have HR3:=a_ hr3
   have HK3:=a_ hk3
   have hup:wr.cell? ⟨g,3,none⟩=some (.bool true):=(bC_ hb3 3).trans rfl
   have he0:=(bC_ hE 0).trans rfl
   have he1:=(bC_ hE 1).trans rfl
   have he2:=(bC_ hE 2).trans rfl
   have he3:=(bC_ hE 3).trans rfl
   have he4:=(bC_ hE 4).trans rfl
   have he5:=(bC_ hE 5).trans rfl
   have he6:=(bC_ hE 6).trans rfl
   clear hE hb3 hr3 hk3
   go_wp2
   go_region_with (go_at_call 119;refine (take_yes k g A3 c3 l _ s true e r1 r2 H2.out _ 0 (bD_ HB3.out) (Kd.R_drew HR3.out) HA.out (HG.out.keep HK3.out H0.out).drew).mono ?_;rintro x w5 ⟨rfl,⟨A5,c5,hb5,hr5⟩,hk5⟩;have HB5:=a_ hb5;have HR5:=a_ (Kd.R_lower hr5 (Nat.zero_le 0));have HK35:=a_ (HK3.out.drew.trans hk5);have HE5:=a_ (hk5.2.blk (bD_ HE.out) NEE.out (by simp));have GLR:=a_ (blk_lt hb5);clear hb5 hr5 hk5;have hq0:=(bC_ HE5.out 0).trans rfl;have hq1:=(bC_ HE5.out 1).trans rfl;have hq2:=(bC_ HE5.out 2).trans rfl;have hq3:=(bC_ HE5.out 3).trans rfl;have hq4:=(bC_ HE5.out 4).trans rfl;have hq5:=(bC_ HE5.out 5).trans rfl;have hq6:=(bC_ HE5.out 6).trans rfl)
   all_goals go_wp2_with (first|((with_reducible refine gD_ (N:=4) rfl ?_);refine bx_ 4 (#[.int .i64 0,.int .i64 0,.int .i64 0,.int .i64 0,.int .i64 0,.int .i64 0,.string ⟨#[]⟩]) 44 ?_;intro g8 hg8 w8 hbox8 hb8;have HBK8:=a_ (blk_below HB5.out hb8);have BK8:=a_ hbox8;have HK8:=a_ (Keep.of_below hb8 (Nat.le_of_lt GLR.out));have GW8:=a_ (Nat.le_of_eq hg8.symm);have GE8:=a_ (show w.heap.size≤g8 by rw [hg8];exact HK35.out.1.size);have NE8:=a_ (show g≠g8 by have:=HGL.out;have:=GE8.out;omega);have hz0:=(bC_ BK8.out 0).trans rfl;have hf0:=bF_ BK8.out 0;have hz1:=(bC_ BK8.out 1).trans rfl;have hf1:=bF_ BK8.out 1;have hz2:=(bC_ BK8.out 2).trans rfl;have hf2:=bF_ BK8.out 2;have hz3:=(bC_ BK8.out 3).trans rfl;have hf3:=bF_ BK8.out 3;have hz4:=(bC_ BK8.out 4).trans rfl;have hf4:=bF_ BK8.out 4;have hz5:=(bC_ BK8.out 5).trans rfl;have hf5:=bF_ BK8.out 5;have hz6:=(bC_ BK8.out 6).trans rfl;have hf6:=bF_ BK8.out 6;clear hbox8 hb8 hg8)|(go_at_call 118;refine (pop_none g _ A4 c4 s true _ ((blk_far (blk_far (blk_far (blk_far (blk_far (blk_far (blk_far (HBK8.out) NE8.out _) NE8.out _) NE8.out _) NE8.out _) NE8.out _) NE8.out _) NE8.out _).trans rfl)).mono ?_;rintro x w9 ⟨rfl,hb9⟩;have HBK9:=a_ (blk_below (blk_far (blk_far (blk_far (blk_far (blk_far (blk_far (blk_far (HBK8.out) NE8.out _) NE8.out _) NE8.out _) NE8.out _) NE8.out _) NE8.out _) NE8.out _) hb9);have BK9:=a_ (blk_below (blk_set (blk_set (blk_set (blk_set (blk_set (blk_set (blk_set (BK8.out) 0 _) 1 _) 2 _) 3 _) 4 _) 5 _) 6 _) hb9);have HK9:=a_ ((Keep.far (Keep.far (Keep.far (Keep.far (Keep.far (Keep.far (Keep.far (HK8.out) (p:=⟨g8,0,none⟩) (Nat.le_of_lt GLR.out) GW8.out _) (p:=⟨g8,1,none⟩) (Nat.le_of_lt GLR.out) GW8.out _) (p:=⟨g8,2,none⟩) (Nat.le_of_lt GLR.out) GW8.out _) (p:=⟨g8,3,none⟩) (Nat.le_of_lt GLR.out) GW8.out _) (p:=⟨g8,4,none⟩) (Nat.le_of_lt GLR.out) GW8.out _) (p:=⟨g8,5,none⟩) (Nat.le_of_lt GLR.out) GW8.out _) (p:=⟨g8,6,none⟩) (Nat.le_of_lt GLR.out) GW8.out _).trans (Keep.of_below hb9 (Nat.le_trans (Nat.le_of_lt GLR.out) (Keep.far (Keep.far (Keep.far (Keep.far (Keep.far (Keep.far (Keep.far (HK8.out) (p:=⟨g8,0,none⟩) (Nat.le_of_lt GLR.out) GW8.out _) (p:=⟨g8,1,none⟩) (Nat.le_of_lt GLR.out) GW8.out _) (p:=⟨g8,2,none⟩) (Nat.le_of_lt GLR.out) GW8.out _) (p:=⟨g8,3,none⟩) (Nat.le_of_lt GLR.out) GW8.out _) (p:=⟨g8,4,none⟩) (Nat.le_of_lt GLR.out) GW8.out _) (p:=⟨g8,5,none⟩) (Nat.le_of_lt GLR.out) GW8.out _) (p:=⟨g8,6,none⟩) (Nat.le_of_lt GLR.out) GW8.out _).1.size)));have hv0:=(bC_ BK9.out 0).trans rfl;have hw0:=bF_ BK9.out 0;have hv1:=(bC_ BK9.out 1).trans rfl;have hw1:=bF_ BK9.out 1;have hv2:=(bC_ BK9.out 2).trans rfl;have hw2:=bF_ BK9.out 2;have hv3:=(bC_ BK9.out 3).trans rfl;have hw3:=bF_ BK9.out 3;have hv4:=(bC_ BK9.out 4).trans rfl;have hw4:=bF_ BK9.out 4;have hv5:=(bC_ BK9.out 5).trans rfl;have hw5:=bF_ BK9.out 5;have hv6:=(bC_ BK9.out 6).trans rfl;have hw6:=bF_ BK9.out 6;clear hb9))
   all_goals refine ⟨.inr ⟨rfl,rfl,A5,c5,A4,c4,(blk_far (blk_far (blk_far (blk_far (blk_far (blk_far (blk_far (HBK9.out) NE8.out _) NE8.out _) NE8.out _) NE8.out _) NE8.out _) NE8.out _) NE8.out _).trans rfl,Kd.R_keep HR5.out (Keep.far (Keep.far (Keep.far (Keep.far (Keep.far (Keep.far (Keep.far (HK9.out) (p:=⟨g8,0,none⟩) (Nat.le_of_lt GLR.out) GW8.out _) (p:=⟨g8,1,none⟩) (Nat.le_of_lt GLR.out) GW8.out _) (p:=⟨g8,2,none⟩) (Nat.le_of_lt GLR.out) GW8.out _) (p:=⟨g8,3,none⟩) (Nat.le_of_lt GLR.out) GW8.out _) (p:=⟨g8,4,none⟩) (Nat.le_of_lt GLR.out) GW8.out _) (p:=⟨g8,5,none⟩) (Nat.le_of_lt GLR.out) GW8.out _) (p:=⟨g8,6,none⟩) (Nat.le_of_lt GLR.out) GW8.out _).2 (fun _ h=>h),HK35.out.trans (Keep.far (Keep.far (Keep.far (Keep.far (Keep.far (Keep.far (Keep.far (HK9.out) (p:=⟨g8,0,none⟩) (Nat.le_of_lt GLR.out) GW8.out _) (p:=⟨g8,1,none⟩) (Nat.le_of_lt GLR.out) GW8.out _) (p:=⟨g8,2,none⟩) (Nat.le_of_lt GLR.out) GW8.out _) (p:=⟨g8,3,none⟩) (Nat.le_of_lt GLR.out) GW8.out _) (p:=⟨g8,4,none⟩) (Nat.le_of_lt GLR.out) GW8.out _) (p:=⟨g8,5,none⟩) (Nat.le_of_lt GLR.out) GW8.out _) (p:=⟨g8,6,none⟩) (Nat.le_of_lt GLR.out) GW8.out _)⟩,by simp [boolN]⟩
  ·go_wp2
   go_ret
   exact ⟨rfl,hF⟩
end Go.Proofs.YtdpklbomhdpimaaDoor.P
