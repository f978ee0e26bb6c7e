/- Joined by a program (wip/shake.py): the declarations that 'YtdpklbomhdpimaaDoorCardFnExactServerHear' reaches. -/
import Derived.Test.YtdpklbomhdpimaaDoorZLm2
set_option linter.unusedVariables false
set_option linter.unusedSimpArgs false
set_option linter.unusedSectionVars false
set_option maxHeartbeats 8000000
set_option maxRecDepth 100000
namespace Go.Proofs.YtdpklbomhdpimaaDoor.P
open Go.RowKit Go.Proofs.YtdpklbomhdpimaaDoorW.PrintWords Go.Proofs.YtdpklbomhdpimaaDoorW.PrintLast
def spec_l12Add.f (k:Nat) (l0:List (S44)) (a1_0:Int) (a1_1:Int) (a1_2:Int) (a1_3:Int) (a1_4:Int) (a1_5:Int) (a1_6:ByteArray):Option ((List (S44))×Int):=(spec_l12Seq.f k l0 a1_0).bind fun t149=>((spec_l12Has.f k l0 a1_0 a1_1 a1_2 a1_3 a1_4 a1_5 a1_6).bind fun t150=>(if t150=true then (some (l0,0)) else (if a1_1=(wrap64 (t149+1)) then (if (l0.length:Int)≥40 then (some (l0,(-1))) else ((some (([]:List (S44)):List (S44))).bind fun y151=>(if y151.length+l0.length < 2199023255552 then ((some (y151++l0:List (S44))).bind fun y154=>((some (([(⟨a1_0,a1_1,(⟨a1_2,a1_3,a1_4,a1_5,a1_6⟩:S42)⟩:S44)]:List (S44)):List (S44))).bind fun y157=>(if y154.length+y157.length < 2199023255552 then (some ((y154++y157),1)) else (none)))) else (none)))) else (some (l0,(-1))))))
theorem spec_l12Add.mono:∀ a0 a1 a2 a3 a4 a5 a6 a7 k,LeO (spec_l12Add.f k a0 a1 a2 a3 a4 a5 a6 a7) (spec_l12Add.f (k+1) a0 a1 a2 a3 a4 a5 a6 a7):=by
 intro a0 a1 a2 a3 a4 a5 a6 a7 k
 unfold spec_l12Add.f
 repeat' first
   | (with_reducible exact spec_l12Has.mono _ _ _ _ _ _ _ _ _)
   | (with_reducible exact spec_l12Seq.mono _ _ _)
   | (with_reducible exact LeO.refl _)
   | (with_reducible exact LeO.none _)
   | (with_reducible refine LeO.ite ?_ ?_)
   | (with_reducible refine LeO.bind ?_ (fun _=>?_))
   | exact spec_l12Has.mono _ _ _ _ _ _ _ _ _
   | exact spec_l12Seq.mono _ _ _
   | exact LeO.none _
   | refine LeO.ite ?_ ?_
   | refine LeO.bind ?_ (fun _=>?_)
def spec_l12Add.T6:Bool×List (List Nat×List Nat):=(true,[([],[]),([],[]),([0,1],[0,1]),([],[]),([3],[3]),([2,4,2],[2,4]),([5,5,0,1,2,3,4,5],[5]),([6,0,1,2,3,4,5,6],[])])
def spec_l12Add.B6:List Nat:=[0,0,3,0,8,31,63,127]
theorem spec_l12Add.tab6:rtab .any (opsOf Tryd.f91 6)=spec_l12Add.T6:=by kernel_rfl
theorem spec_l12Add.bits6:waitsOk spec_l12Add.T6.2 spec_l12Add.B6=true:=by kernel_rfl
def Out12 (B:Nat) (w':World) (A:Option Addr) (c:Nat) (l:List (S44)) (v:Value) (r:List (S44)) (n:Int):Prop:=(n=1∧Kd.R k44 44 w' B (fun _=>True) v r)∨(n≠1∧v=.slice A l.length c∧r=l)
theorem spec_l12Add.calls (k:Nat) (A0:Option Addr) (c0:Nat) (l0:List (S44)) (a1_0:Int) (a1_1:Int) (a1_2:Int) (a1_3:Int) (a1_4:Int) (a1_5:Int) (a1_6:ByteArray) (r1:List (S44)) (r2:Int) (w:World) (hr0:Kd.C k44 w A0 l0.length l0) (hc0:l0.length≤c0) (h:spec_l12Add.f k l0 a1_0 a1_1 a1_2 a1_3 a1_4 a1_5 a1_6=some (r1,r2)) :
  Calls Tryd.prog 91 #[.slice A0 l0.length c0,.agg #[.int .i64 a1_0,.int .i64 a1_1,.int .i64 a1_2,.int .i64 a1_3,.int .i64 a1_4,.int .i64 a1_5,.string a1_6]] w fun e w'=>∃ v0_:Value,e=.returned (.tuple #[v0_,.int .i64 r2])∧Out12 w.heap.size w' A0 c0 l0 v0_ r1 r2∧Below w.heap.size w w':=by
 have hu44:=Tryd.underlying44
 have HR0:=a_ hr0
 have HC0:=a_ hc0
 clear hr0 hc0
 have HB:=a_ (Below.refl w.heap.size w)
 unfold spec_l12Add.f at h
 have H:=h
 clear h
 replace H:=bs_ H
 obtain ⟨t149,A30,H⟩:=H
 try dsimp only at H
 have A3:=a_ A30
 clear A30
 replace H:=bs_ H
 obtain ⟨t150,A40,H⟩:=H
 try dsimp only at H
 have A4:=a_ A40
 clear A40
 by_cases c5:t150=true
 ·subst c5
  have H1:(some (l0,0))=some (r1,r2):=by rw [if_pos rfl] at H;exact H
  clear H
  have H:=H1
  clear H1
  simp only [Option.some.injEq,Prod.mk.injEq] at H
  obtain ⟨rfl,rfl⟩:=H
  go_enter Tryd.func91,Tryd.ntmps91
  go_wp2_with (first|((with_reducible refine gD_ (N:=3) rfl ?_);refine bx_ 3 (#[.int .i64 a1_0,.int .i64 a1_1,.int .i64 a1_2,.int .i64 a1_3,.int .i64 a1_4,.int .i64 a1_5,.string a1_6]) 44 ?_;intro gb148 hg w6 hbox hb;have n0_:=a_ (bS_ (bel_) hb);have n1_:=a_ (hbox);have n2_:=a_ ((by rw [hg];exact (below_size (bel_)):w.heap.size≤gb148));have n3_:=a_ ((by rw [hg];exact (below_size (bel_)):w.heap.size≤gb148));clear HB;have HB:=n0_;have BK148:=n1_;have GW148:=n2_;have GE148:=n3_;clear n0_ n1_ n2_ n3_;clear hb hbox hg;have Z7_0:=cz_ BK148.out 0 (.int .i64 a1_0);have Z7_1:=cz_ BK148.out 1 (.int .i64 a1_1);have Z7_2:=cz_ BK148.out 2 (.int .i64 a1_2);have Z7_3:=cz_ BK148.out 3 (.int .i64 a1_3);have Z7_4:=cz_ BK148.out 4 (.int .i64 a1_4);have Z7_5:=cz_ BK148.out 5 (.int .i64 a1_5);have Z7_6:=cz_ BK148.out 6 (.string a1_6);have Y7_0:=bF_ BK148.out 0;have Y7_1:=bF_ BK148.out 1;have Y7_2:=bF_ BK148.out 2;have Y7_3:=bF_ BK148.out 3;have Y7_4:=bF_ BK148.out 4;have Y7_5:=bF_ BK148.out 5;have Y7_6:=bF_ BK148.out 6)|((with_reducible refine gC_ (f:=90) rfl ?_);refine gl_ 10 Tryd.func90 #[.slice A0 l0.length c0,.int .i64 a1_0] ?_;(with_reducible refine (spec_l12Seq.calls k _ _ l0 a1_0 t149 _ ?side1 ?side2 A3.out).mono ?_);(case side1=>exact cp_ HR0.out);(case side2=>exact HC0.out);rintro e w' ⟨rfl,⟨nd,rfl⟩⟩;refine ⟨_,rfl,?_⟩)|((with_reducible refine gC_ (f:=126) rfl ?_);refine gl_ 14 Tryd.func126 #[.slice A0 l0.length c0,.agg #[.int .i64 a1_0,.int .i64 a1_1,.int .i64 a1_2,.int .i64 a1_3,.int .i64 a1_4,.int .i64 a1_5,.string a1_6]] ?_;(with_reducible refine (spec_l12Has.calls k _ _ l0 a1_0 a1_1 a1_2 a1_3 a1_4 a1_5 a1_6 true _ ?side1 ?side2 A4.out).mono ?_);(case side1=>repeat (first|exact (Kd.C_below HR0.out (bel_))|(with_reducible refine Kd.C_alloc ?_ _)|(with_reducible refine Kd.C_drewN ?_ _)|(with_reducible refine Kd.C_drew ?_)));(case side2=>exact HC0.out);rintro e w8 ⟨rfl,hb⟩;refine ⟨_,rfl,?_⟩;replace HB:=a_ (bS_ (bel_) hb);replace BK148:=a_ (bb_ BK148.out hb);(try clear hb)))
  go_ret2
  exact ⟨_,fi_,Or.inr ⟨by decide,rfl,rfl⟩,bel_⟩
 ·replace c5:=Bool.eq_false_iff.mpr c5
  subst c5
  have H1:(if a1_1=(wrap64 (t149+1)) then (if (l0.length:Int)≥40 then (some (l0,(-1))) else ((some (([]:List (S44)):List (S44))).bind fun y151=>(if y151.length+l0.length < 2199023255552 then ((some (y151++l0:List (S44))).bind fun y154=>((some (([(⟨a1_0,a1_1,(⟨a1_2,a1_3,a1_4,a1_5,a1_6⟩:S42)⟩:S44)]:List (S44)):List (S44))).bind fun y157=>(if y154.length+y157.length < 2199023255552 then (some ((y154++y157),1)) else (none)))) else (none)))) else (some (l0,(-1))))=some (r1,r2):=by rw [if_neg (show ¬ (false=true) by decide)] at H;exact H
  clear H
  have H:=H1
  clear H1
  by_cases c9:a1_1=(wrap64 (t149+1))
  ·rw [if_pos c9] at H
   have c9b0:(a1_1==(wrap64 (t149+1)))=true:=beq_iff_eq.mpr c9
   have c9b1:(a1_1 != (wrap64 (t149+1)))=false:=be_ c9
   clear c9
   by_cases c10:(l0.length:Int)≥40
   ·rw [if_pos c10] at H
    have c10b0:decide (40≤(l0.length:Int))=true:=dt_ c10
    have c10b1:decide (40≤l0.length)=true:=dt_ (by omega)
    clear c10
    simp only [Option.some.injEq,Prod.mk.injEq] at H
    obtain ⟨rfl,rfl⟩:=H
    go_enter Tryd.func91,Tryd.ntmps91
    go_wp2_with (first|((with_reducible refine gD_ (N:=3) rfl ?_);refine bx_ 3 (#[.int .i64 a1_0,.int .i64 a1_1,.int .i64 a1_2,.int .i64 a1_3,.int .i64 a1_4,.int .i64 a1_5,.string a1_6]) 44 ?_;intro gb148 hg w11 hbox hb;have n0_:=a_ (bS_ (bel_) hb);have n1_:=a_ (hbox);have n2_:=a_ ((by rw [hg];exact (below_size (bel_)):w.heap.size≤gb148));have n3_:=a_ ((by rw [hg];exact (below_size (bel_)):w.heap.size≤gb148));clear HB;have HB:=n0_;have BK148:=n1_;have GW148:=n2_;have GE148:=n3_;clear n0_ n1_ n2_ n3_;clear hb hbox hg;have Z12_0:=cz_ BK148.out 0 (.int .i64 a1_0);have Z12_1:=cz_ BK148.out 1 (.int .i64 a1_1);have Z12_2:=cz_ BK148.out 2 (.int .i64 a1_2);have Z12_3:=cz_ BK148.out 3 (.int .i64 a1_3);have Z12_4:=cz_ BK148.out 4 (.int .i64 a1_4);have Z12_5:=cz_ BK148.out 5 (.int .i64 a1_5);have Z12_6:=cz_ BK148.out 6 (.string a1_6);have Y12_0:=bF_ BK148.out 0;have Y12_1:=bF_ BK148.out 1;have Y12_2:=bF_ BK148.out 2;have Y12_3:=bF_ BK148.out 3;have Y12_4:=bF_ BK148.out 4;have Y12_5:=bF_ BK148.out 5;have Y12_6:=bF_ BK148.out 6)|((with_reducible refine gC_ (f:=90) rfl ?_);refine gl_ 10 Tryd.func90 #[.slice A0 l0.length c0,.int .i64 a1_0] ?_;(with_reducible refine (spec_l12Seq.calls k _ _ l0 a1_0 t149 _ ?side1 ?side2 A3.out).mono ?_);(case side1=>exact cp_ HR0.out);(case side2=>exact HC0.out);rintro e w' ⟨rfl,⟨nd,rfl⟩⟩;refine ⟨_,rfl,?_⟩)|((with_reducible refine gC_ (f:=126) rfl ?_);refine gl_ 14 Tryd.func126 #[.slice A0 l0.length c0,.agg #[.int .i64 a1_0,.int .i64 a1_1,.int .i64 a1_2,.int .i64 a1_3,.int .i64 a1_4,.int .i64 a1_5,.string a1_6]] ?_;(with_reducible refine (spec_l12Has.calls k _ _ l0 a1_0 a1_1 a1_2 a1_3 a1_4 a1_5 a1_6 false _ ?side1 ?side2 A4.out).mono ?_);(case side1=>repeat (first|exact (Kd.C_below HR0.out (bel_))|(with_reducible refine Kd.C_alloc ?_ _)|(with_reducible refine Kd.C_drewN ?_ _)|(with_reducible refine Kd.C_drew ?_)));(case side2=>exact HC0.out);rintro e w13 ⟨rfl,hb⟩;refine ⟨_,rfl,?_⟩;replace HB:=a_ (bS_ (bel_) hb);replace BK148:=a_ (bb_ BK148.out hb);(try clear hb);have Z14_0:=cz_ BK148.out 0 (.int .i64 a1_0);have Z14_1:=cz_ BK148.out 1 (.int .i64 a1_1);have Z14_2:=cz_ BK148.out 2 (.int .i64 a1_2);have Z14_3:=cz_ BK148.out 3 (.int .i64 a1_3);have Z14_4:=cz_ BK148.out 4 (.int .i64 a1_4);have Z14_5:=cz_ BK148.out 5 (.int .i64 a1_5);have Z14_6:=cz_ BK148.out 6 (.string a1_6);have Y14_0:=bF_ BK148.out 0;have Y14_1:=bF_ BK148.out 1;have Y14_2:=bF_ BK148.out 2;have Y14_3:=bF_ BK148.out 3;have Y14_4:=bF_ BK148.out 4;have Y14_5:=bF_ BK148.out 5;have Y14_6:=bF_ BK148.out 6))
    go_ret2
    exact ⟨_,fi_,Or.inr ⟨by decide,rfl,rfl⟩,bel_⟩
   ·rw [if_neg c10] at H
    have c10b0:decide (40≤(l0.length:Int))=false:=df_ c10
    have c10b1:decide (40≤l0.length)=false:=df_ (by omega)
    clear c10
    obtain ⟨y151,hy151⟩:∃ y_:List (S44),y_=(([]:List (S44))):=⟨_,rfl⟩
    replace H:(if y151.length+l0.length < 2199023255552 then ((some (y151++l0:List (S44))).bind fun y154=>((some (([(⟨a1_0,a1_1,(⟨a1_2,a1_3,a1_4,a1_5,a1_6⟩:S42)⟩:S44)]:List (S44)):List (S44))).bind fun y157=>(if y154.length+y157.length < 2199023255552 then (some ((y154++y157),1)) else (none)))) else (none))=some (r1,r2):=by first|(rw [hy151];with_reducible exact H)|(have H2_:=(Option.bind_some _ _).symm.trans H;rw [hy151];with_reducible exact H2_)|(have H2_:=(Option.bind_some _ _).symm.trans H;with_reducible exact H2_)|with_reducible exact H|(rw [hy151];exact H)|exact H
    have Ny151:=a_ hy151
    clear hy151
    by_cases c15:y151.length+l0.length < 2199023255552
    ·rw [if_pos c15] at H
     have LMc15:=a_ c15
     clear c15
     obtain ⟨y154,hy154⟩:∃ y_:List (S44),y_=(y151++l0):=⟨_,rfl⟩
     replace H:((some (([(⟨a1_0,a1_1,(⟨a1_2,a1_3,a1_4,a1_5,a1_6⟩:S42)⟩:S44)]:List (S44)):List (S44))).bind fun y157=>(if y154.length+y157.length < 2199023255552 then (some ((y154++y157),1)) else (none)))=some (r1,r2):=by first|(rw [hy154];with_reducible exact H)|(have H2_:=(Option.bind_some _ _).symm.trans H;rw [hy154];with_reducible exact H2_)|(have H2_:=(Option.bind_some _ _).symm.trans H;with_reducible exact H2_)|with_reducible exact H|(rw [hy154];exact H)|exact H
     have Ny154:=a_ hy154
     clear hy154
     obtain ⟨y157,hy157⟩:∃ y_:List (S44),y_=(([(⟨a1_0,a1_1,(⟨a1_2,a1_3,a1_4,a1_5,a1_6⟩:S42)⟩:S44)]:List (S44))):=⟨_,rfl⟩
     replace H:(if y154.length+y157.length < 2199023255552 then (some ((y154++y157),1)) else (none))=some (r1,r2):=by first|(rw [hy157];with_reducible exact H)|(have H2_:=(Option.bind_some _ _).symm.trans H;rw [hy157];with_reducible exact H2_)|(have H2_:=(Option.bind_some _ _).symm.trans H;with_reducible exact H2_)|with_reducible exact H|(rw [hy157];exact H)|exact H
     have Ny157:=a_ hy157
     clear hy157
     by_cases c16:y154.length+y157.length < 2199023255552
     ·rw [if_pos c16] at H
      have LMc16:=a_ c16
      clear c16
      obtain ⟨y160,hy160⟩:∃ y_:List (S44),y_=(y154++y157):=⟨_,rfl⟩
      replace H:(some (y160,1))=some (r1,r2):=by first|(rw [hy160];with_reducible exact H)|(have H2_:=(Option.bind_some _ _).symm.trans H;rw [hy160];with_reducible exact H2_)|(have H2_:=(Option.bind_some _ _).symm.trans H;with_reducible exact H2_)|with_reducible exact H|(rw [hy160];exact H)|exact H
      have Ny160:=a_ hy160
      clear hy160
      simp only [Option.some.injEq,Prod.mk.injEq] at H
      obtain ⟨rfl,rfl⟩:=H
      go_enter Tryd.func91,Tryd.ntmps91
      try go_wp2_with (first|((with_reducible refine gD_ (N:=3) rfl ?_);refine bx_ 3 (#[.int .i64 a1_0,.int .i64 a1_1,.int .i64 a1_2,.int .i64 a1_3,.int .i64 a1_4,.int .i64 a1_5,.string a1_6]) 44 ?_;intro gb148 hg w17 hbox hb;have n0_:=a_ (bS_ (bel_) hb);have n1_:=a_ (hbox);have n2_:=a_ ((by rw [hg];exact (below_size (bel_)):w.heap.size≤gb148));have n3_:=a_ ((by rw [hg];exact (below_size (bel_)):w.heap.size≤gb148));clear HB;have HB:=n0_;have BK148:=n1_;have GW148:=n2_;have GE148:=n3_;clear n0_ n1_ n2_ n3_;clear hb hbox hg;have Z18_0:=cz_ BK148.out 0 (.int .i64 a1_0);have Z18_1:=cz_ BK148.out 1 (.int .i64 a1_1);have Z18_2:=cz_ BK148.out 2 (.int .i64 a1_2);have Z18_3:=cz_ BK148.out 3 (.int .i64 a1_3);have Z18_4:=cz_ BK148.out 4 (.int .i64 a1_4);have Z18_5:=cz_ BK148.out 5 (.int .i64 a1_5);have Z18_6:=cz_ BK148.out 6 (.string a1_6);have Y18_0:=bF_ BK148.out 0;have Y18_1:=bF_ BK148.out 1;have Y18_2:=bF_ BK148.out 2;have Y18_3:=bF_ BK148.out 3;have Y18_4:=bF_ BK148.out 4;have Y18_5:=bF_ BK148.out 5;have Y18_6:=bF_ BK148.out 6)|((with_reducible refine gC_ (f:=90) rfl ?_);refine gl_ 10 Tryd.func90 #[.slice A0 l0.length c0,.int .i64 a1_0] ?_;(with_reducible refine (spec_l12Seq.calls k _ _ l0 a1_0 t149 _ ?side1 ?side2 A3.out).mono ?_);(case side1=>exact cp_ HR0.out);(case side2=>exact HC0.out);rintro e w' ⟨rfl,⟨nd,rfl⟩⟩;refine ⟨_,rfl,?_⟩)|((with_reducible refine gC_ (f:=126) rfl ?_);refine gl_ 14 Tryd.func126 #[.slice A0 l0.length c0,.agg #[.int .i64 a1_0,.int .i64 a1_1,.int .i64 a1_2,.int .i64 a1_3,.int .i64 a1_4,.int .i64 a1_5,.string a1_6]] ?_;(with_reducible refine (spec_l12Has.calls k _ _ l0 a1_0 a1_1 a1_2 a1_3 a1_4 a1_5 a1_6 false _ ?side1 ?side2 A4.out).mono ?_);(case side1=>repeat (first|exact (Kd.C_below HR0.out (bel_))|(with_reducible refine Kd.C_alloc ?_ _)|(with_reducible refine Kd.C_drewN ?_ _)|(with_reducible refine Kd.C_drew ?_)));(case side2=>exact HC0.out);rintro e w19 ⟨rfl,hb⟩;refine ⟨_,rfl,?_⟩;replace HB:=a_ (bS_ (bel_) hb);replace BK148:=a_ (bb_ BK148.out hb);(try clear hb);have Z20_0:=cz_ BK148.out 0 (.int .i64 a1_0);have Z20_1:=cz_ BK148.out 1 (.int .i64 a1_1);have Z20_2:=cz_ BK148.out 2 (.int .i64 a1_2);have Z20_3:=cz_ BK148.out 3 (.int .i64 a1_3);have Z20_4:=cz_ BK148.out 4 (.int .i64 a1_4);have Z20_5:=cz_ BK148.out 5 (.int .i64 a1_5);have Z20_6:=cz_ BK148.out 6 (.string a1_6);have Y20_0:=bF_ BK148.out 0;have Y20_1:=bF_ BK148.out 1;have Y20_2:=bF_ BK148.out 2;have Y20_3:=bF_ BK148.out 3;have Y20_4:=bF_ BK148.out 4;have Y20_5:=bF_ BK148.out 5;have Y20_6:=bF_ BK148.out 6))
      have n0_:=a_ (bD_ BK148.out)
      have n1_:=a_ (below_drew1 HB.out)
      clear BK148
      clear HB
      have BK148:=n0_
      have HB:=n1_
      clear n0_ n1_
      refine start_ (n:=8) (S:=fun w'=>w'.cell? ⟨gb148,0,none⟩=some (.int .i64 a1_0)∧w'.cell? ⟨gb148,1,none⟩=some (.int .i64 a1_1)∧w'.cell? ⟨gb148,2,none⟩=some (.int .i64 a1_2)∧w'.cell? ⟨gb148,3,none⟩=some (.int .i64 a1_3)∧w'.cell? ⟨gb148,4,none⟩=some (.int .i64 a1_4)∧w'.cell? ⟨gb148,5,none⟩=some (.int .i64 a1_5)∧w'.cell? ⟨gb148,6,none⟩=some (.string a1_6)) (ds:=[]) #[false,false,false,false,false,false,false,false] (by kernel_rfl) rfl rfl ⟨(bC_ BK148.out 0).trans rfl,(bC_ BK148.out 1).trans rfl,(bC_ BK148.out 2).trans rfl,(bC_ BK148.out 3).trans rfl,(bC_ BK148.out 4).trans rfl,(bC_ BK148.out 5).trans rfl,(bC_ BK148.out 6).trans rfl⟩ (fun hHeld=>?_);refine with_tabW spec_l12Add.tab6 spec_l12Add.bits6 (fun HT_ HW_=>?_)
      generalize w19.drew=w21 at BK148 HB hHeld ⊢
      refine pa_ 1 29 ?_
      refine ta7_ 3 31 hHeld ?_
      refine join_ (σ:=Value×Value×Value) 3 #[true,true,true,true,true,false,false,false] (fun s_=>[(28,s_.1),(30,s_.2.1),(32,s_.2.2)]) (fun s_ w'=>(w'.cell? ⟨gb148,0,none⟩=some (.int .i64 a1_0)∧w'.cell? ⟨gb148,1,none⟩=some (.int .i64 a1_1)∧w'.cell? ⟨gb148,2,none⟩=some (.int .i64 a1_2)∧w'.cell? ⟨gb148,3,none⟩=some (.int .i64 a1_3)∧w'.cell? ⟨gb148,4,none⟩=some (.int .i64 a1_4)∧w'.cell? ⟨gb148,5,none⟩=some (.int .i64 a1_5)∧w'.cell? ⟨gb148,6,none⟩=some (.string a1_6))∧(Kd.R k44 44 w' w.heap.size (fun k_=>some k_≠(s_.2.2:Value).ownBlock∧k_≠gb148) s_.2.1 y154)∧(Kd.R k44 44 w' w.heap.size (fun k_=>some k_≠(s_.2.1:Value).ownBlock∧k_≠gb148) s_.2.2 y157)∧(w'.heap[gb148]?=some (.cells #[.int .i64 a1_0,.int .i64 a1_1,.int .i64 a1_2,.int .i64 a1_3,.int .i64 a1_4,.int .i64 a1_5,.string a1_6] 44 (0,0)))∧(Below w.heap.size w w')) ?_ ?_
      rotate_left
      ·intro hCont
       refine two_ (i:=0) (j:=4) (Ni:=some 28) (Nj:=some 32) #[true,true,false,true,false,false,false,false] #[false,true,false,true,true,false,false,false] rfl rfl rfl rfl (two_of HT_.out (by kernel_rfl)) (by decide) (by decide) (fun K hK=>?_) (fun K hK=>?_)
       ·skip
        refine Kd.R_lit_step k44 _ 44 ?hg (N:=28) ?hd (xs:=([]:List (S44))) (inner:=[]) (ok:=fun _=>True) (okp:=fun _=>True) ?hr ?hp (fun _ hk=>hk) trivial (Below.refl _ _) (Nat.le_refl _) (by simp) ?_;(case hd=>rfl);(case hg=>rfl);(case hr=>first|(go_simp;done)|(go_simp;rfl));(case hp=>exact (Reps.none _ _))
        intro v152 w22 ho23 hb hg_ hnew_
        clear hg_ hnew_
        (first|rw [←Ny151.out] at ho23|(simp only [Int.reduceToNat] at ho23;rw [←Ny151.out] at ho23))
        have n0_:=a_ (Kd.R_lower (Kd.R_newB ho23 (g:=gb148) (o:=.cells #[.int .i64 a1_0,.int .i64 a1_1,.int .i64 a1_2,.int .i64 a1_3,.int .i64 a1_4,.int .i64 a1_5,.string a1_6] 44 (0,0)) (bp_ BK148.out)) (below_size (bel_)))
        have n1_:=a_ (bb_ BK148.out hb)
        have n2_:=a_ (bS_ (bel_) hb)
        clear BK148
        clear HB
        have HO153:=n0_
        have BK148:=n1_
        have HB:=n2_
        clear n0_ n1_ n2_
        clear hb ho23
        refine hK.out _ _ ⟨(bC_ BK148.out 0).trans rfl,(bC_ BK148.out 1).trans rfl,(bC_ BK148.out 2).trans rfl,(bC_ BK148.out 3).trans rfl,(bC_ BK148.out 4).trans rfl,(bC_ BK148.out 5).trans rfl,(bC_ BK148.out 6).trans rfl⟩ (fun hHeld=>?_)
        clear hK K
        refine no_ 28 ?_
        refine two_ (i:=2) (j:=4) (Ni:=some 30) (Nj:=some 32) #[true,true,true,true,false,false,false,false] #[true,true,false,true,true,false,false,false] rfl rfl rfl rfl (two_of HT_.out (by kernel_rfl)) (by decide) (by decide) (fun K hK=>?_) (fun K hK=>?_)
        ·skip
         refine Kd.R_append_rows_step k44 (w0:=w) w.heap.size (by rfl) (.tmp 28) (.tmp 29) 23 44 (.agg #[(.int .i64 0),(.int .i64 0),(.int .i64 0),(.int .i64 0),(.int .i64 0),(.int .i64 0),(.string ⟨#[]⟩)]) 64 rfl Tryd.underlying23 info44 rfl (by decide) (by omega) v152 y151 l0 _ _ _ (fun k_=>k_≠gb148) (fun _=>False) rfl rfl ?aO ?aR (fun _ _ h=>h) (fun _ h=>h.elim) ?aF ?aB ?aS ?aL ?_
         (case aR=>exact cx_ (Kd.C_below HR0.out HB.out))
         (case aB=>exact (bel_))
         (case aF=>exact (fun k_ hk=>Kd.freshB (g:=gb148) (o:=.cells #[.int .i64 a1_0,.int .i64 a1_1,.int .i64 a1_2,.int .i64 a1_3,.int .i64 a1_4,.int .i64 a1_5,.string a1_6] 44 (0,0)) (bp_ BK148.out) k_ hk))
         (case aO=>exact (by (with_reducible repeat (first|apply Kd.R_alloc|apply Kd.R_drewN|apply Kd.R_drew));exact Kd.R_mono HO153.out (fun _ hk=>hk.2)))
         (case aS=>exact (below_size (bel_)))
         (case aL=>have:=LMc15.out;omega)
         intro v155 w24 ho hb hg hat
         rw [←Ny154.out] at ho
         have n0_:=a_ (blk_grown (g:=gb148) (o:=.cells #[.int .i64 a1_0,.int .i64 a1_1,.int .i64 a1_2,.int .i64 a1_3,.int .i64 a1_4,.int .i64 a1_5,.string a1_6] 44 (0,0)) (bp_ BK148.out) hg (Kd.R_away HO153.out (fun _ hk=>hk.2)))
         have n1_:=a_ (hb)
         have n2_:=a_ (ho)
         clear BK148
         clear HB
         clear HO153
         have BK148:=n0_
         have HB:=n1_
         have HO156:=n2_
         clear n0_ n1_ n2_
         clear ho hb hg hat
         refine hK.out _ _ ⟨(bC_ BK148.out 0).trans rfl,(bC_ BK148.out 1).trans rfl,(bC_ BK148.out 2).trans rfl,(bC_ BK148.out 3).trans rfl,(bC_ BK148.out 4).trans rfl,(bC_ BK148.out 5).trans rfl,(bC_ BK148.out 6).trans rfl⟩ (fun hHeld=>?_)
         clear hK K
         refine no_ 30 ?_
         refine on_ 4 32 (fun K hK=>?_)
         refine Kd.R_lit_step k44 _ 44 ?hg (N:=32) ?hd (xs:=([(⟨a1_0,a1_1,(⟨a1_2,a1_3,a1_4,a1_5,a1_6⟩:S42)⟩:S44)]:List (S44))) (inner:=[.int .i64 a1_0,.int .i64 a1_1,.int .i64 a1_2,.int .i64 a1_3,.int .i64 a1_4,.int .i64 a1_5,.string a1_6]) (ok:=fun _=>True) (okp:=fun _=>True) ?hr ?hp (fun _ hk=>hk) trivial (Below.refl _ _) (Nat.le_refl _) (by simp) ?_;(case hd=>rfl);(case hg=>rfl);(case hr=>first|(go_simp;done)|(go_simp;rfl));(case hp=>exact (Reps.c7 (show Kd.M k44 _ _ _ (⟨a1_0,a1_1,(⟨a1_2,a1_3,a1_4,a1_5,a1_6⟩:S42)⟩:S44) [.int .i64 a1_0,.int .i64 a1_1,.int .i64 a1_2,.int .i64 a1_3,.int .i64 a1_4,.int .i64 a1_5,.string a1_6] from (k44_mkM _ _ _ (⟨a1_0,a1_1,(⟨a1_2,a1_3,a1_4,a1_5,a1_6⟩:S42)⟩:S44) )) (Reps.none _ _)))
         intro v158 w25 ho26 hb hg_ hnew_
         clear hg_ hnew_
         (first|rw [←Ny157.out] at ho26|(simp only [Int.reduceToNat] at ho26;rw [←Ny157.out] at ho26))
         have n0_:=a_ (Kd.R_elder' (rp_ HO156.out) (Kd.R_base ho26) hb)
         have n1_:=a_ (Kd.R_lower (Kd.R_newB (Kd.R_new' ho26 (Kd.R_lt (rp_ HO156.out))) (g:=gb148) (o:=.cells #[.int .i64 a1_0,.int .i64 a1_1,.int .i64 a1_2,.int .i64 a1_3,.int .i64 a1_4,.int .i64 a1_5,.string a1_6] 44 (0,0)) (bp_ BK148.out)) (below_size (bel_)))
         have n2_:=a_ (bb_ BK148.out hb)
         have n3_:=a_ (bS_ (bel_) hb)
         clear HO156
         clear BK148
         clear HB
         have HO156:=n0_
         have HO159:=n1_
         have BK148:=n2_
         have HB:=n3_
         clear n0_ n1_ n2_ n3_
         clear hb ho26
         refine hK.out _ _ ⟨(bC_ BK148.out 0).trans rfl,(bC_ BK148.out 1).trans rfl,(bC_ BK148.out 2).trans rfl,(bC_ BK148.out 3).trans rfl,(bC_ BK148.out 4).trans rfl,(bC_ BK148.out 5).trans rfl,(bC_ BK148.out 6).trans rfl⟩ (fun hHeld=>?_)
         clear hK K
         refine no_ 32 ?_
         exact norm_ (by simp only [putAll,Act.put,List.setIfInBounds_toArray,List.set_cons_zero,List.set_cons_succ]) (hCont (v152,v155,v158) _ ⟨hHeld,(by (with_reducible repeat (first|apply Kd.R_alloc|apply Kd.R_drewN|apply Kd.R_drew));exact Kd.R_mono HO156.out (fun _ hk=>⟨hk.2,hk.1⟩)),(by (with_reducible repeat (first|apply Kd.R_alloc|apply Kd.R_drewN|apply Kd.R_drew));exact Kd.R_mono HO159.out (fun _ hk=>⟨hk.1.2,hk.2⟩)),(bp_ BK148.out),(bel_)⟩)
        ·skip
         refine Kd.R_lit_step k44 _ 44 ?hg (N:=32) ?hd (xs:=([(⟨a1_0,a1_1,(⟨a1_2,a1_3,a1_4,a1_5,a1_6⟩:S42)⟩:S44)]:List (S44))) (inner:=[.int .i64 a1_0,.int .i64 a1_1,.int .i64 a1_2,.int .i64 a1_3,.int .i64 a1_4,.int .i64 a1_5,.string a1_6]) (ok:=fun _=>True) (okp:=fun _=>True) ?hr ?hp (fun _ hk=>hk) trivial (Below.refl _ _) (Nat.le_refl _) (by simp) ?_;(case hd=>rfl);(case hg=>rfl);(case hr=>first|(go_simp;done)|(go_simp;rfl));(case hp=>exact (Reps.c7 (show Kd.M k44 _ _ _ (⟨a1_0,a1_1,(⟨a1_2,a1_3,a1_4,a1_5,a1_6⟩:S42)⟩:S44) [.int .i64 a1_0,.int .i64 a1_1,.int .i64 a1_2,.int .i64 a1_3,.int .i64 a1_4,.int .i64 a1_5,.string a1_6] from (k44_mkM _ _ _ (⟨a1_0,a1_1,(⟨a1_2,a1_3,a1_4,a1_5,a1_6⟩:S42)⟩:S44) )) (Reps.none _ _)))
         intro v158 w24 ho25 hb hg_ hnew_
         clear hg_ hnew_
         (first|rw [←Ny157.out] at ho25|(simp only [Int.reduceToNat] at ho25;rw [←Ny157.out] at ho25))
         have n0_:=a_ (Kd.R_elder' (rp_ HO153.out) (Kd.R_base ho25) hb)
         have n1_:=a_ (Kd.R_lower (Kd.R_newB (Kd.R_new' ho25 (Kd.R_lt (rp_ HO153.out))) (g:=gb148) (o:=.cells #[.int .i64 a1_0,.int .i64 a1_1,.int .i64 a1_2,.int .i64 a1_3,.int .i64 a1_4,.int .i64 a1_5,.string a1_6] 44 (0,0)) (bp_ BK148.out)) (below_size (bel_)))
         have n2_:=a_ (bb_ BK148.out hb)
         have n3_:=a_ (bS_ (bel_) hb)
         clear HO153
         clear BK148
         clear HB
         have HO153:=n0_
         have HO159:=n1_
         have BK148:=n2_
         have HB:=n3_
         clear n0_ n1_ n2_ n3_
         clear hb ho25
         refine hK.out _ _ ⟨(bC_ BK148.out 0).trans rfl,(bC_ BK148.out 1).trans rfl,(bC_ BK148.out 2).trans rfl,(bC_ BK148.out 3).trans rfl,(bC_ BK148.out 4).trans rfl,(bC_ BK148.out 5).trans rfl,(bC_ BK148.out 6).trans rfl⟩ (fun hHeld=>?_)
         clear hK K
         refine no_ 32 ?_
         refine on_ 2 30 (fun K hK=>?_)
         refine Kd.R_append_rows_step k44 (w0:=w) w.heap.size (by rfl) (.tmp 28) (.tmp 29) 23 44 (.agg #[(.int .i64 0),(.int .i64 0),(.int .i64 0),(.int .i64 0),(.int .i64 0),(.int .i64 0),(.string ⟨#[]⟩)]) 64 rfl Tryd.underlying23 info44 rfl (by decide) (by omega) v152 y151 l0 _ _ _ (fun k_=>some k_≠(v158:Value).ownBlock∧k_≠gb148) (fun _=>False) rfl rfl ?aO ?aR (fun _ _ h=>h) (fun _ h=>h.elim) ?aF ?aB ?aS ?aL ?_
         (case aR=>exact cx_ (Kd.C_below HR0.out HB.out))
         (case aB=>exact (bel_))
         (case aF=>exact (fun k_ hk=>⟨Kd.fresh' (Kd.R_lt (rp_ HO159.out)) k_ hk,Kd.freshB (g:=gb148) (o:=.cells #[.int .i64 a1_0,.int .i64 a1_1,.int .i64 a1_2,.int .i64 a1_3,.int .i64 a1_4,.int .i64 a1_5,.string a1_6] 44 (0,0)) (bp_ BK148.out) k_ hk⟩))
         (case aO=>exact (by (with_reducible repeat (first|apply Kd.R_alloc|apply Kd.R_drewN|apply Kd.R_drew));exact Kd.R_mono HO153.out (fun _ hk=>⟨hk.2,hk.1.2⟩)))
         (case aS=>exact (below_size (bel_)))
         (case aL=>have:=LMc15.out;omega)
         intro v155 w26 ho hb hg hat
         rw [←Ny154.out] at ho
         have n0_:=a_ (blk_grown (g:=gb148) (o:=.cells #[.int .i64 a1_0,.int .i64 a1_1,.int .i64 a1_2,.int .i64 a1_3,.int .i64 a1_4,.int .i64 a1_5,.string a1_6] 44 (0,0)) (bp_ BK148.out) hg (Kd.R_away HO153.out (fun _ hk=>hk.1.2)))
         have n1_:=a_ (Kd.R_after (ok:=(fun k_=>k_≠gb148)) (by (with_reducible repeat (first|apply Kd.R_alloc|apply Kd.R_drewN|apply Kd.R_drew));exact Kd.R_mono HO159.out (fun _ hk=>⟨hk.2,hk.1.2⟩)) hg hat)
         have n2_:=a_ (hb)
         have n3_:=a_ (ho)
         clear BK148
         clear HO159
         clear HB
         clear HO153
         have BK148:=n0_
         have HO159:=n1_
         have HB:=n2_
         have HO156:=n3_
         clear n0_ n1_ n2_ n3_
         clear ho hb hg hat
         refine hK.out _ _ ⟨(bC_ BK148.out 0).trans rfl,(bC_ BK148.out 1).trans rfl,(bC_ BK148.out 2).trans rfl,(bC_ BK148.out 3).trans rfl,(bC_ BK148.out 4).trans rfl,(bC_ BK148.out 5).trans rfl,(bC_ BK148.out 6).trans rfl⟩ (fun hHeld=>?_)
         clear hK K
         refine no_ 30 ?_
         exact norm_ (by simp only [putAll,Act.put,List.setIfInBounds_toArray,List.set_cons_zero,List.set_cons_succ]) (hCont (v152,v155,v158) _ ⟨hHeld,(rp_ HO156.out),(by (with_reducible repeat (first|apply Kd.R_alloc|apply Kd.R_drewN|apply Kd.R_drew));exact Kd.R_mono HO159.out (fun _ hk=>⟨hk.2,hk.1⟩)),(bp_ BK148.out),(bel_)⟩)
       ·skip
        refine Kd.R_lit_step k44 _ 44 ?hg (N:=32) ?hd (xs:=([(⟨a1_0,a1_1,(⟨a1_2,a1_3,a1_4,a1_5,a1_6⟩:S42)⟩:S44)]:List (S44))) (inner:=[.int .i64 a1_0,.int .i64 a1_1,.int .i64 a1_2,.int .i64 a1_3,.int .i64 a1_4,.int .i64 a1_5,.string a1_6]) (ok:=fun _=>True) (okp:=fun _=>True) ?hr ?hp (fun _ hk=>hk) trivial (Below.refl _ _) (Nat.le_refl _) (by simp) ?_;(case hd=>rfl);(case hg=>rfl);(case hr=>first|(go_simp;done)|(go_simp;rfl));(case hp=>exact (Reps.c7 (show Kd.M k44 _ _ _ (⟨a1_0,a1_1,(⟨a1_2,a1_3,a1_4,a1_5,a1_6⟩:S42)⟩:S44) [.int .i64 a1_0,.int .i64 a1_1,.int .i64 a1_2,.int .i64 a1_3,.int .i64 a1_4,.int .i64 a1_5,.string a1_6] from (k44_mkM _ _ _ (⟨a1_0,a1_1,(⟨a1_2,a1_3,a1_4,a1_5,a1_6⟩:S42)⟩:S44) )) (Reps.none _ _)))
        intro v158 w22 ho23 hb hg_ hnew_
        clear hg_ hnew_
        (first|rw [←Ny157.out] at ho23|(simp only [Int.reduceToNat] at ho23;rw [←Ny157.out] at ho23))
        have n0_:=a_ (Kd.R_lower (Kd.R_newB ho23 (g:=gb148) (o:=.cells #[.int .i64 a1_0,.int .i64 a1_1,.int .i64 a1_2,.int .i64 a1_3,.int .i64 a1_4,.int .i64 a1_5,.string a1_6] 44 (0,0)) (bp_ BK148.out)) (below_size (bel_)))
        have n1_:=a_ (bb_ BK148.out hb)
        have n2_:=a_ (bS_ (bel_) hb)
        clear BK148
        clear HB
        have HO159:=n0_
        have BK148:=n1_
        have HB:=n2_
        clear n0_ n1_ n2_
        clear hb ho23
        refine hK.out _ _ ⟨(bC_ BK148.out 0).trans rfl,(bC_ BK148.out 1).trans rfl,(bC_ BK148.out 2).trans rfl,(bC_ BK148.out 3).trans rfl,(bC_ BK148.out 4).trans rfl,(bC_ BK148.out 5).trans rfl,(bC_ BK148.out 6).trans rfl⟩ (fun hHeld=>?_)
        clear hK K
        refine no_ 32 ?_
        refine on_ 0 28 (fun K hK=>?_)
        refine Kd.R_lit_step k44 _ 44 ?hg (N:=28) ?hd (xs:=([]:List (S44))) (inner:=[]) (ok:=fun _=>True) (okp:=fun _=>True) ?hr ?hp (fun _ hk=>hk) trivial (Below.refl _ _) (Nat.le_refl _) (by simp) ?_;(case hd=>rfl);(case hg=>rfl);(case hr=>first|(go_simp;done)|(go_simp;rfl));(case hp=>exact (Reps.none _ _))
        intro v152 w24 ho25 hb hg_ hnew_
        clear hg_ hnew_
        (first|rw [←Ny151.out] at ho25|(simp only [Int.reduceToNat] at ho25;rw [←Ny151.out] at ho25))
        have n0_:=a_ (Kd.R_elder' (rp_ HO159.out) (Kd.R_base ho25) hb)
        have n1_:=a_ (Kd.R_lower (Kd.R_newB (Kd.R_new' ho25 (Kd.R_lt (rp_ HO159.out))) (g:=gb148) (o:=.cells #[.int .i64 a1_0,.int .i64 a1_1,.int .i64 a1_2,.int .i64 a1_3,.int .i64 a1_4,.int .i64 a1_5,.string a1_6] 44 (0,0)) (bp_ BK148.out)) (below_size (bel_)))
        have n2_:=a_ (bb_ BK148.out hb)
        have n3_:=a_ (bS_ (bel_) hb)
        clear HO159
        clear BK148
        clear HB
        have HO159:=n0_
        have HO153:=n1_
        have BK148:=n2_
        have HB:=n3_
        clear n0_ n1_ n2_ n3_
        clear hb ho25
        refine hK.out _ _ ⟨(bC_ BK148.out 0).trans rfl,(bC_ BK148.out 1).trans rfl,(bC_ BK148.out 2).trans rfl,(bC_ BK148.out 3).trans rfl,(bC_ BK148.out 4).trans rfl,(bC_ BK148.out 5).trans rfl,(bC_ BK148.out 6).trans rfl⟩ (fun hHeld=>?_)
        clear hK K
        refine no_ 28 ?_
        refine on_ 2 30 (fun K hK=>?_)
        refine Kd.R_append_rows_step k44 (w0:=w) w.heap.size (by rfl) (.tmp 28) (.tmp 29) 23 44 (.agg #[(.int .i64 0),(.int .i64 0),(.int .i64 0),(.int .i64 0),(.int .i64 0),(.int .i64 0),(.string ⟨#[]⟩)]) 64 rfl Tryd.underlying23 info44 rfl (by decide) (by omega) v152 y151 l0 _ _ _ (fun k_=>some k_≠(v158:Value).ownBlock∧k_≠gb148) (fun _=>False) rfl rfl ?aO ?aR (fun _ _ h=>h) (fun _ h=>h.elim) ?aF ?aB ?aS ?aL ?_
        (case aR=>exact cx_ (Kd.C_below HR0.out HB.out))
        (case aB=>exact (bel_))
        (case aF=>exact (fun k_ hk=>⟨Kd.fresh' (Kd.R_lt (rp_ HO159.out)) k_ hk,Kd.freshB (g:=gb148) (o:=.cells #[.int .i64 a1_0,.int .i64 a1_1,.int .i64 a1_2,.int .i64 a1_3,.int .i64 a1_4,.int .i64 a1_5,.string a1_6] 44 (0,0)) (bp_ BK148.out) k_ hk⟩))
        (case aO=>exact (by (with_reducible repeat (first|apply Kd.R_alloc|apply Kd.R_drewN|apply Kd.R_drew));exact Kd.R_mono HO153.out (fun _ hk=>⟨hk.1.2,hk.2⟩)))
        (case aS=>exact (below_size (bel_)))
        (case aL=>have:=LMc15.out;omega)
        intro v155 w26 ho hb hg hat
        rw [←Ny154.out] at ho
        have n0_:=a_ (blk_grown (g:=gb148) (o:=.cells #[.int .i64 a1_0,.int .i64 a1_1,.int .i64 a1_2,.int .i64 a1_3,.int .i64 a1_4,.int .i64 a1_5,.string a1_6] 44 (0,0)) (bp_ BK148.out) hg (Kd.R_away HO153.out (fun _ hk=>hk.2)))
        have n1_:=a_ (Kd.R_after (ok:=(fun k_=>k_≠gb148)) (by (with_reducible repeat (first|apply Kd.R_alloc|apply Kd.R_drewN|apply Kd.R_drew));exact Kd.R_mono HO159.out (fun _ hk=>⟨hk.1.2,hk.2⟩)) hg hat)
        have n2_:=a_ (hb)
        have n3_:=a_ (ho)
        clear BK148
        clear HO159
        clear HB
        clear HO153
        have BK148:=n0_
        have HO159:=n1_
        have HB:=n2_
        have HO156:=n3_
        clear n0_ n1_ n2_ n3_
        clear ho hb hg hat
        refine hK.out _ _ ⟨(bC_ BK148.out 0).trans rfl,(bC_ BK148.out 1).trans rfl,(bC_ BK148.out 2).trans rfl,(bC_ BK148.out 3).trans rfl,(bC_ BK148.out 4).trans rfl,(bC_ BK148.out 5).trans rfl,(bC_ BK148.out 6).trans rfl⟩ (fun hHeld=>?_)
        clear hK K
        refine no_ 30 ?_
        exact norm_ (by simp only [putAll,Act.put,List.setIfInBounds_toArray,List.set_cons_zero,List.set_cons_succ]) (hCont (v152,v155,v158) _ ⟨hHeld,(rp_ HO156.out),(by (with_reducible repeat (first|apply Kd.R_alloc|apply Kd.R_drewN|apply Kd.R_drew));exact Kd.R_mono HO159.out (fun _ hk=>⟨hk.2,hk.1⟩)),(bp_ BK148.out),(bel_)⟩)
      rintro ⟨v152,v155,v158⟩ w27 ⟨hS_,h0_,h1_,h2_,h3_⟩
      have n0_:Aside0 (Kd.R k44 44 w27 w.heap.size (fun k_=>some k_≠(v158:Value).ownBlock∧k_≠gb148) v155 y154):=⟨h0_⟩
      have n1_:Aside0 (Kd.R k44 44 w27 w.heap.size (fun k_=>some k_≠(v155:Value).ownBlock∧k_≠gb148) v158 y157):=⟨h1_⟩
      have n2_:Aside0 (w27.heap[gb148]?=some (.cells #[.int .i64 a1_0,.int .i64 a1_1,.int .i64 a1_2,.int .i64 a1_3,.int .i64 a1_4,.int .i64 a1_5,.string a1_6] 44 (0,0))):=⟨h2_⟩
      have n3_:Aside0 (Below w.heap.size w w27):=⟨h3_⟩
      clear BK148
      clear HB
      clear h0_ h1_ h2_ h3_
      have HO156:=n0_
      have HO159:=n1_
      have BK148:=n2_
      have HB:=n3_
      clear n0_ n1_ n2_ n3_
      have hHeld:w27.cell? ⟨gb148,0,none⟩=some (.int .i64 a1_0)∧w27.cell? ⟨gb148,1,none⟩=some (.int .i64 a1_1)∧w27.cell? ⟨gb148,2,none⟩=some (.int .i64 a1_2)∧w27.cell? ⟨gb148,3,none⟩=some (.int .i64 a1_3)∧w27.cell? ⟨gb148,4,none⟩=some (.int .i64 a1_4)∧w27.cell? ⟨gb148,5,none⟩=some (.int .i64 a1_5)∧w27.cell? ⟨gb148,6,none⟩=some (.string a1_6):=hS_
      obtain ⟨Ao29,co29,eo29⟩:=Kd.R_slice HO159.out
      (first|subst eo29|(injection eo29 with f1_ f2_ f3_;have f4_:=f1_.symm;have f5_:=f3_.symm;clear f1_ f2_ f3_;subst f4_;subst f5_))
      refine norm_ (a':=?_) ?_ ?_
      rotate_left
      ·simp only [putAll,Act.put,List.setIfInBounds_toArray,List.set_cons_zero,List.set_cons_succ]
       rfl
      refine on_ 5 33 (fun K hK=>?_)
      refine Kd.R_append_rows_step k44 (w0:=w) w.heap.size (by rfl) (.tmp 30) (.tmp 32) 23 44 (.agg #[(.int .i64 0),(.int .i64 0),(.int .i64 0),(.int .i64 0),(.int .i64 0),(.int .i64 0),(.string ⟨#[]⟩)]) 64 rfl Tryd.underlying23 info44 rfl (by decide) (by omega) v155 y154 y157 _ _ _ (fun k_=>some k_≠(.slice Ao29 y157.length co29:Value).ownBlock∧k_≠gb148) (fun _=>False) rfl rfl ?aO ?aR (fun _ _ h=>h) (fun _ h=>h.elim) ?aF ?aB ?aS ?aL ?_
      (case aR=>exact cx_ (Kd.R_reads' HO159.out).2.2)
      (case aB=>exact (bel_))
      (case aF=>exact (fun k_ hk=>⟨Kd.fresh' (Kd.R_lt (rp_ HO159.out)) k_ hk,Kd.freshB (g:=gb148) (o:=.cells #[.int .i64 a1_0,.int .i64 a1_1,.int .i64 a1_2,.int .i64 a1_3,.int .i64 a1_4,.int .i64 a1_5,.string a1_6] 44 (0,0)) (bp_ BK148.out) k_ hk⟩))
      (case aO=>exact (rp_ HO156.out))
      (case aS=>exact (below_size (bel_)))
      (case aL=>have:=LMc16.out;omega)
      intro v161 w28 ho hb hg hat
      rw [←Ny160.out] at ho
      have n0_:=a_ (blk_grown (g:=gb148) (o:=.cells #[.int .i64 a1_0,.int .i64 a1_1,.int .i64 a1_2,.int .i64 a1_3,.int .i64 a1_4,.int .i64 a1_5,.string a1_6] 44 (0,0)) (bp_ BK148.out) hg (Kd.R_away HO156.out (fun _ hk=>hk.2)))
      have n1_:=a_ (Kd.R_after (ok:=(fun k_=>k_≠gb148)) (by (with_reducible repeat (first|apply Kd.R_alloc|apply Kd.R_drewN|apply Kd.R_drew));exact Kd.R_mono HO159.out (fun _ hk=>⟨hk.2,hk.1⟩)) hg hat)
      have n2_:=a_ (hb)
      have n3_:=a_ (ho)
      clear BK148
      clear HO159
      clear HB
      clear HO156
      have BK148:=n0_
      have HO159:=n1_
      have HB:=n2_
      have HO162:=n3_
      clear n0_ n1_ n2_ n3_
      clear ho hb hg hat
      refine hK.out _ _ ⟨(bC_ BK148.out 0).trans rfl,(bC_ BK148.out 1).trans rfl,(bC_ BK148.out 2).trans rfl,(bC_ BK148.out 3).trans rfl,(bC_ BK148.out 4).trans rfl,(bC_ BK148.out 5).trans rfl,(bC_ BK148.out 6).trans rfl⟩ (fun hHeld=>?_)
      clear hK K
      refine no_ 33 ?_
      refine pa_ 6 4 ?_
      refine pa_ 7 5 ?_
      refine done_ (done_of HT_.out (by kernel_rfl)) ?_
      try go_wp2
      go_ret2
      exact ⟨_,fi_,Or.inl ⟨rfl,by (with_reducible repeat (first|apply Kd.R_alloc|apply Kd.R_drewN|apply Kd.R_drew));exact Kd.R_mono HO162.out (fun _ hk=>trivial)⟩,bel_⟩
     ·rw [if_neg c16] at H
      exact absurd H (by simp)
    ·rw [if_neg c15] at H
     exact absurd H (by simp)
  ·rw [if_neg c9] at H
   have c9b0:(a1_1==(wrap64 (t149+1)))=false:=bn_ c9
   have c9b1:(a1_1 != (wrap64 (t149+1)))=true:=bne_iff_ne.mpr c9
   simp only [Option.some.injEq,Prod.mk.injEq] at H
   obtain ⟨rfl,rfl⟩:=H
   go_enter Tryd.func91,Tryd.ntmps91
   go_wp2_with (first|((with_reducible refine gD_ (N:=3) rfl ?_);refine bx_ 3 (#[.int .i64 a1_0,.int .i64 a1_1,.int .i64 a1_2,.int .i64 a1_3,.int .i64 a1_4,.int .i64 a1_5,.string a1_6]) 44 ?_;intro gb148 hg w30 hbox hb;have n0_:=a_ (bS_ (bel_) hb);have n1_:=a_ (hbox);have n2_:=a_ ((by rw [hg];exact (below_size (bel_)):w.heap.size≤gb148));have n3_:=a_ ((by rw [hg];exact (below_size (bel_)):w.heap.size≤gb148));clear HB;have HB:=n0_;have BK148:=n1_;have GW148:=n2_;have GE148:=n3_;clear n0_ n1_ n2_ n3_;clear hb hbox hg;have Z31_0:=cz_ BK148.out 0 (.int .i64 a1_0);have Z31_1:=cz_ BK148.out 1 (.int .i64 a1_1);have Z31_2:=cz_ BK148.out 2 (.int .i64 a1_2);have Z31_3:=cz_ BK148.out 3 (.int .i64 a1_3);have Z31_4:=cz_ BK148.out 4 (.int .i64 a1_4);have Z31_5:=cz_ BK148.out 5 (.int .i64 a1_5);have Z31_6:=cz_ BK148.out 6 (.string a1_6);have Y31_0:=bF_ BK148.out 0;have Y31_1:=bF_ BK148.out 1;have Y31_2:=bF_ BK148.out 2;have Y31_3:=bF_ BK148.out 3;have Y31_4:=bF_ BK148.out 4;have Y31_5:=bF_ BK148.out 5;have Y31_6:=bF_ BK148.out 6)|((with_reducible refine gC_ (f:=90) rfl ?_);refine gl_ 10 Tryd.func90 #[.slice A0 l0.length c0,.int .i64 a1_0] ?_;(with_reducible refine (spec_l12Seq.calls k _ _ l0 a1_0 t149 _ ?side1 ?side2 A3.out).mono ?_);(case side1=>exact cp_ HR0.out);(case side2=>exact HC0.out);rintro e w' ⟨rfl,⟨nd,rfl⟩⟩;refine ⟨_,rfl,?_⟩)|((with_reducible refine gC_ (f:=126) rfl ?_);refine gl_ 14 Tryd.func126 #[.slice A0 l0.length c0,.agg #[.int .i64 a1_0,.int .i64 a1_1,.int .i64 a1_2,.int .i64 a1_3,.int .i64 a1_4,.int .i64 a1_5,.string a1_6]] ?_;(with_reducible refine (spec_l12Has.calls k _ _ l0 a1_0 a1_1 a1_2 a1_3 a1_4 a1_5 a1_6 false _ ?side1 ?side2 A4.out).mono ?_);(case side1=>repeat (first|exact (Kd.C_below HR0.out (bel_))|(with_reducible refine Kd.C_alloc ?_ _)|(with_reducible refine Kd.C_drewN ?_ _)|(with_reducible refine Kd.C_drew ?_)));(case side2=>exact HC0.out);rintro e w32 ⟨rfl,hb⟩;refine ⟨_,rfl,?_⟩;replace HB:=a_ (bS_ (bel_) hb);replace BK148:=a_ (bb_ BK148.out hb);(try clear hb);have Z33_0:=cz_ BK148.out 0 (.int .i64 a1_0);have Z33_1:=cz_ BK148.out 1 (.int .i64 a1_1);have Z33_2:=cz_ BK148.out 2 (.int .i64 a1_2);have Z33_3:=cz_ BK148.out 3 (.int .i64 a1_3);have Z33_4:=cz_ BK148.out 4 (.int .i64 a1_4);have Z33_5:=cz_ BK148.out 5 (.int .i64 a1_5);have Z33_6:=cz_ BK148.out 6 (.string a1_6);have Y33_0:=bF_ BK148.out 0;have Y33_1:=bF_ BK148.out 1;have Y33_2:=bF_ BK148.out 2;have Y33_3:=bF_ BK148.out 3;have Y33_4:=bF_ BK148.out 4;have Y33_5:=bF_ BK148.out 5;have Y33_6:=bF_ BK148.out 6))
   go_ret2
   exact ⟨_,fi_,Or.inr ⟨by decide,rfl,rfl⟩,bel_⟩
end Go.Proofs.YtdpklbomhdpimaaDoor.P
namespace Go.Proofs.YtdpklbomhdpimaaDoor.P
open Go.RowKit Go.Proofs.YtdpklbomhdpimaaDoorW.PrintWords Go.Proofs.YtdpklbomhdpimaaDoorW.PrintLast Go.Proofs.YtdpklbomhdpimaaDoorW.PrintMore
def spec_l13Hear.f (k:Nat) (l0_0:List S44) (a0_1:Int) (a0_2:Bool) (a1_0:Int) (a1_1:Int) (a1_2:Int) (a1_3:Int) (a1_4:Int) (a1_5:Int) (a1_6:ByteArray):Option (List S44×Int×Bool×Bool) :=
 (spec_l12Add.f k l0_0 a1_0 a1_1 a1_2 a1_3 a1_4 a1_5 a1_6).bind fun p=>if a0_2=true then (if p.2=1 then some (p.1,a0_1,true,true) else some (l0_0,a0_1,true,false)) else some (l0_0,a0_1,false,false)
theorem spec_l13Hear.mono (l0_0:List S44) (a0_1:Int) (a0_2:Bool) (a1_0:Int) (a1_1:Int) (a1_2:Int) (a1_3:Int) (a1_4:Int) (a1_5:Int) (a1_6:ByteArray) (k:Nat):LeO (spec_l13Hear.f k l0_0 a0_1 a0_2 a1_0 a1_1 a1_2 a1_3 a1_4 a1_5 a1_6) (spec_l13Hear.f (k+1) l0_0 a0_1 a0_2 a1_0 a1_1 a1_2 a1_3 a1_4 a1_5 a1_6):=by
 unfold spec_l13Hear.f
 exact LeO.bind (spec_l12Add.mono _ _ _ _ _ _ _ _ _) (fun _=>LeO.refl _)
def Out13 (B:Nat) (w':World) (A:Option Addr) (c:Nat) (l:List S44) (v:Value) (r:List S44) (ok:Bool):Prop:=(ok=true∧Kd.R k44 44 w' B (fun _=>True) v r)∨(ok=false∧v=.slice A l.length c∧r=l)
theorem Out13.own {B:Nat} {W W':World} {okp:Nat→Prop} {A:Option Addr} {c:Nat} {l:List S44} {v:Value} {r:List S44} {ok:Bool} (h:Out13 W.heap.size W' A c l v r ok) (hO:Kd.R k44 44 W B okp (.slice A l.length c) l) (hb:Below W.heap.size W W') (hB:B≤W.heap.size):Kd.R k44 44 W' B (fun _=>True) v r:=by
 rcases h with ⟨_,h⟩|⟨_,rfl,rfl⟩
 ·exact Kd.R_lower h hB
 ·exact Kd.R_mono (Kd.R_below hO hb) (fun _ _=>trivial)
theorem spec_l13Hear.calls (k:Nat) (A0_0:Option Addr) (c0_0:Nat) (l0_0:List S44) (a0_1:Int) (a0_2:Bool) (a1_0:Int) (a1_1:Int) (a1_2:Int) (a1_3:Int) (a1_4:Int) (a1_5:Int) (a1_6:ByteArray) (r1:List S44) (r2:Int) (r3:Bool) (r4:Bool) (w:World) (hr0_0:Kd.C k44 w A0_0 l0_0.length l0_0) (hc0_0:l0_0.length≤c0_0) (h:spec_l13Hear.f k l0_0 a0_1 a0_2 a1_0 a1_1 a1_2 a1_3 a1_4 a1_5 a1_6=some (r1,r2,r3,r4)) :
  Calls Tryd.prog 76 #[.agg #[.slice A0_0 l0_0.length c0_0,.int .i64 a0_1,.bool a0_2],.agg #[.int .i64 a1_0,.int .i64 a1_1,.int .i64 a1_2,.int .i64 a1_3,.int .i64 a1_4,.int .i64 a1_5,.string a1_6]] w fun e w'=>∃ v0_:Value,e=.returned (.tuple #[.agg #[v0_,.int .i64 r2,.bool r3],.bool r4])∧Out13 w.heap.size w' A0_0 c0_0 l0_0 v0_ r1 r4∧Below w.heap.size w w':=by
 have HR0:=a_ hr0_0
 have HC0:=a_ hc0_0
 clear hr0_0 hc0_0
 have hu1:=Tryd.underlying25
 have hu4:=Tryd.underlying44
 unfold spec_l13Hear.f at h
 obtain ⟨⟨p1,p2⟩,hp,h2⟩:=Option.bind_eq_some_iff.1 h
 clear h
 have HP:=a_ hp
 clear hp
 dsimp only at h2
 cases a0_2 with
 | false =>
  simp only [Bool.false_eq_true,if_false,Option.some.injEq,Prod.mk.injEq] at h2
  obtain ⟨rfl,rfl,rfl,rfl⟩:=h2
  go_enter Tryd.func76,Tryd.ntmps76
  go_wp2_with (first|((with_reducible refine gD_ (N:=2) rfl ?_);refine bx_ 2 (#[.slice A0_0 l0_0.length c0_0,.int .i64 a0_1,.bool false]) 25 ?_;intro gS hgS w1 hbox hb1;have HB1:=a_ hb1;have BS1:=a_ hbox;have GS:=a_ (show w.heap.size≤gS by rw [hgS];exact Nat.le_refl _);clear hbox hb1 hgS)|((with_reducible refine gD_ (N:=3) rfl ?_);refine bx_ 3 (#[.int .i64 a1_0,.int .i64 a1_1,.int .i64 a1_2,.int .i64 a1_3,.int .i64 a1_4,.int .i64 a1_5,.string a1_6]) 44 ?_;intro gE hgE w2 hbox hb2;have HB2:=a_ (bS_ HB1.out hb2);have BS2:=a_ (blk_below BS1.out hb2);have BE2:=a_ hbox;clear hbox hb2 hgE)|((with_reducible refine gD_ (N:=4) rfl ?_);refine bx_ 4 (#[.slice none 0 0,.int .i64 0,.bool false]) 25 ?_;intro gR hgR w3 hbox hb3;have HB3:=a_ (bS_ HB2.out hb3);have BS3:=a_ (blk_below BS2.out hb3);have BE3:=a_ (blk_below BE2.out hb3);have BR3:=a_ hbox;have GR:=a_ (show w.heap.size≤gR by rw [hgR];exact HB2.out.size);have NSR:=a_ (show gS≠gR by have:=blk_lt BS2.out;omega);have hs0:=(bC_ BS3.out 0).trans rfl;have hs1:=(bC_ BS3.out 1).trans rfl;have hs2:=(bC_ BS3.out 2).trans rfl;have he0:=(bC_ BE3.out 0).trans rfl;have he1:=(bC_ BE3.out 1).trans rfl;have he2:=(bC_ BE3.out 2).trans rfl;have he3:=(bC_ BE3.out 3).trans rfl;have he4:=(bC_ BE3.out 4).trans rfl;have he5:=(bC_ BE3.out 5).trans rfl;have he6:=(bC_ BE3.out 6).trans rfl;have hz0:=(bC_ BR3.out 0).trans rfl;have hz1:=(bC_ BR3.out 1).trans rfl;have hz2:=(bC_ BR3.out 2).trans rfl;have hzf0:=bF_ BR3.out 0;have hzf1:=bF_ BR3.out 1;have hzf2:=bF_ BR3.out 2;clear hbox hb3 hgR)|(go_at_call 91;go_loud (refine (spec_l12Add.calls k _ _ l0_0 a1_0 a1_1 a1_2 a1_3 a1_4 a1_5 a1_6 p1 p2 _ (Kd.C_below HR0.out HB3.out) HC0.out HP.out).mono ?_;rintro e w4 ⟨v4,rfl,ho4,hb4⟩;have HO4:=a_ ho4;have HB4:=a_ (bS_ HB3.out hb4);have BS4:=a_ (blk_below BS3.out hb4);have BR4:=a_ (blk_below BR3.out hb4);have NR4:=a_ (Nat.le_trans HB3.out.size hb4.size);clear hb4 ho4;have ht0:=(bC_ BS4.out 0).trans rfl;have ht1:=(bC_ BS4.out 1).trans rfl;have ht2:=(bC_ BS4.out 2).trans rfl;have htf0:=bF_ BS4.out 0;have htf1:=bF_ BS4.out 1;have htf2:=bF_ BS4.out 2;have hy0:=(bC_ BR4.out 0).trans rfl;have hy1:=(bC_ BR4.out 1).trans rfl;have hy2:=(bC_ BR4.out 2).trans rfl;have hyf0:=bF_ BR4.out 0;have hyf1:=bF_ BR4.out 1;have hyf2:=bF_ BR4.out 2)))
  (try simp only [Exit.inBlock,Exit.then])
  refine bodyPost_ret (results_ct rfl _ _ gR 25 #[.slice A0_0 l0_0.length c0_0,.int .i64 a0_1,.bool false] (0,0) _ rfl ((blk_set (blk_set (blk_set BR4.out 0 _) 1 _) 2 _).trans rfl) Tryd.underlying25 rfl (by kernel_rfl)) rfl ?_
  exact ⟨_,rfl,Or.inr ⟨rfl,rfl,rfl⟩,wS_ (wS_ (wS_ HB4.out GR.out) GR.out) GR.out⟩
 | true =>
  rw [if_pos rfl] at h2
  by_cases hn:p2=1
  ·rw [if_pos hn] at h2
   simp only [Option.some.injEq,Prod.mk.injEq] at h2
   obtain ⟨rfl,rfl,rfl,rfl⟩:=h2
   subst hn
   go_enter Tryd.func76,Tryd.ntmps76
   go_wp2_with (first|((with_reducible refine gD_ (N:=2) rfl ?_);refine bx_ 2 (#[.slice A0_0 l0_0.length c0_0,.int .i64 a0_1,.bool true]) 25 ?_;intro gS hgS w1 hbox hb1;have HB1:=a_ hb1;have BS1:=a_ hbox;have GS:=a_ (show w.heap.size≤gS by rw [hgS];exact Nat.le_refl _);clear hbox hb1 hgS)|((with_reducible refine gD_ (N:=3) rfl ?_);refine bx_ 3 (#[.int .i64 a1_0,.int .i64 a1_1,.int .i64 a1_2,.int .i64 a1_3,.int .i64 a1_4,.int .i64 a1_5,.string a1_6]) 44 ?_;intro gE hgE w2 hbox hb2;have HB2:=a_ (bS_ HB1.out hb2);have BS2:=a_ (blk_below BS1.out hb2);have BE2:=a_ hbox;clear hbox hb2 hgE)|((with_reducible refine gD_ (N:=4) rfl ?_);refine bx_ 4 (#[.slice none 0 0,.int .i64 0,.bool false]) 25 ?_;intro gR hgR w3 hbox hb3;have HB3:=a_ (bS_ HB2.out hb3);have BS3:=a_ (blk_below BS2.out hb3);have BE3:=a_ (blk_below BE2.out hb3);have BR3:=a_ hbox;have GR:=a_ (show w.heap.size≤gR by rw [hgR];exact HB2.out.size);have NSR:=a_ (show gS≠gR by have:=blk_lt BS2.out;omega);have hs0:=(bC_ BS3.out 0).trans rfl;have hs1:=(bC_ BS3.out 1).trans rfl;have hs2:=(bC_ BS3.out 2).trans rfl;have he0:=(bC_ BE3.out 0).trans rfl;have he1:=(bC_ BE3.out 1).trans rfl;have he2:=(bC_ BE3.out 2).trans rfl;have he3:=(bC_ BE3.out 3).trans rfl;have he4:=(bC_ BE3.out 4).trans rfl;have he5:=(bC_ BE3.out 5).trans rfl;have he6:=(bC_ BE3.out 6).trans rfl;have hz0:=(bC_ BR3.out 0).trans rfl;have hz1:=(bC_ BR3.out 1).trans rfl;have hz2:=(bC_ BR3.out 2).trans rfl;have hzf0:=bF_ BR3.out 0;have hzf1:=bF_ BR3.out 1;have hzf2:=bF_ BR3.out 2;clear hbox hb3 hgR)|(go_at_call 91;go_loud (refine (spec_l12Add.calls k _ _ l0_0 a1_0 a1_1 a1_2 a1_3 a1_4 a1_5 a1_6 p1 1 _ (Kd.C_below HR0.out HB3.out) HC0.out HP.out).mono ?_;rintro e w4 ⟨v4,rfl,ho4,hb4⟩;have HO4:=a_ ho4;have HB4:=a_ (bS_ HB3.out hb4);have BS4:=a_ (blk_below BS3.out hb4);have BR4:=a_ (blk_below BR3.out hb4);have NR4:=a_ (Nat.le_trans HB3.out.size hb4.size);have hR4:=(Or.resolve_right ho4 (fun q=>q.1 rfl)).2;obtain ⟨A5,c5,rfl⟩:=Kd.R_slice hR4;have HR5:=a_ (Kd.R_types (Kd.R_types hR4 BS4.out (by decide)) BR4.out (by decide));have nsr:=NSR.out;have nrs:=NSR.out.symm;clear hR4 hb4 ho4;have ht0:=(bC_ BS4.out 0).trans rfl;have ht1:=(bC_ BS4.out 1).trans rfl;have ht2:=(bC_ BS4.out 2).trans rfl;have htf0:=bF_ BS4.out 0;have htf1:=bF_ BS4.out 1;have htf2:=bF_ BS4.out 2;have hy0:=(bC_ BR4.out 0).trans rfl;have hy1:=(bC_ BR4.out 1).trans rfl;have hy2:=(bC_ BR4.out 2).trans rfl;have hyf0:=bF_ BR4.out 0;have hyf1:=bF_ BR4.out 1;have hyf2:=bF_ BR4.out 2)))
   (try simp only [Exit.inBlock,Exit.then])
   refine bodyPost_ret (results_ct rfl _ _ gR 25 #[.slice A5 p1.length c5,.int .i64 a0_1,.bool true] (0,0) _ rfl ((blk_set (blk_set (blk_set (blk_far BR4.out NSR.out.symm _) 0 _) 1 _) 2 _).trans rfl) Tryd.underlying25 rfl (by kernel_rfl)) rfl ?_
   refine ⟨_,rfl,Or.inl ⟨rfl,?_⟩,wS_ (wS_ (wS_ (wS_ HB4.out GS.out) GR.out) GR.out) GR.out⟩
   exact Kd.R_mono (Kd.R_lower (Kd.R_far (Kd.R_far (Kd.R_far (Kd.R_far HR5.out (p:=⟨gS,0,none⟩) (fun _ hk=>hk.1.2) _) (p:=⟨gR,0,none⟩) (fun _ hk=>hk.2) _) (p:=⟨gR,1,none⟩) (fun _ hk=>hk.2) _) (p:=⟨gR,2,none⟩) (fun _ hk=>hk.2) _) HB3.out.size) (fun _ _=>trivial)
  ·rw [if_neg hn] at h2
   simp only [Option.some.injEq,Prod.mk.injEq] at h2
   obtain ⟨rfl,rfl,rfl,rfl⟩:=h2
   have hn1:(p2 != 1)=true:=bne_iff_ne.mpr hn
   have hn2:(p2==1)=false:=bn_ hn
   clear hn
   go_enter Tryd.func76,Tryd.ntmps76
   go_wp2_with (first|((with_reducible refine gD_ (N:=2) rfl ?_);refine bx_ 2 (#[.slice A0_0 l0_0.length c0_0,.int .i64 a0_1,.bool true]) 25 ?_;intro gS hgS w1 hbox hb1;have HB1:=a_ hb1;have BS1:=a_ hbox;have GS:=a_ (show w.heap.size≤gS by rw [hgS];exact Nat.le_refl _);clear hbox hb1 hgS)|((with_reducible refine gD_ (N:=3) rfl ?_);refine bx_ 3 (#[.int .i64 a1_0,.int .i64 a1_1,.int .i64 a1_2,.int .i64 a1_3,.int .i64 a1_4,.int .i64 a1_5,.string a1_6]) 44 ?_;intro gE hgE w2 hbox hb2;have HB2:=a_ (bS_ HB1.out hb2);have BS2:=a_ (blk_below BS1.out hb2);have BE2:=a_ hbox;clear hbox hb2 hgE)|((with_reducible refine gD_ (N:=4) rfl ?_);refine bx_ 4 (#[.slice none 0 0,.int .i64 0,.bool false]) 25 ?_;intro gR hgR w3 hbox hb3;have HB3:=a_ (bS_ HB2.out hb3);have BS3:=a_ (blk_below BS2.out hb3);have BE3:=a_ (blk_below BE2.out hb3);have BR3:=a_ hbox;have GR:=a_ (show w.heap.size≤gR by rw [hgR];exact HB2.out.size);have NSR:=a_ (show gS≠gR by have:=blk_lt BS2.out;omega);have hs0:=(bC_ BS3.out 0).trans rfl;have hs1:=(bC_ BS3.out 1).trans rfl;have hs2:=(bC_ BS3.out 2).trans rfl;have he0:=(bC_ BE3.out 0).trans rfl;have he1:=(bC_ BE3.out 1).trans rfl;have he2:=(bC_ BE3.out 2).trans rfl;have he3:=(bC_ BE3.out 3).trans rfl;have he4:=(bC_ BE3.out 4).trans rfl;have he5:=(bC_ BE3.out 5).trans rfl;have he6:=(bC_ BE3.out 6).trans rfl;have hz0:=(bC_ BR3.out 0).trans rfl;have hz1:=(bC_ BR3.out 1).trans rfl;have hz2:=(bC_ BR3.out 2).trans rfl;have hzf0:=bF_ BR3.out 0;have hzf1:=bF_ BR3.out 1;have hzf2:=bF_ BR3.out 2;clear hbox hb3 hgR)|(go_at_call 91;go_loud (refine (spec_l12Add.calls k _ _ l0_0 a1_0 a1_1 a1_2 a1_3 a1_4 a1_5 a1_6 p1 p2 _ (Kd.C_below HR0.out HB3.out) HC0.out HP.out).mono ?_;rintro e w4 ⟨v4,rfl,ho4,hb4⟩;have HO4:=a_ ho4;have HB4:=a_ (bS_ HB3.out hb4);have BS4:=a_ (blk_below BS3.out hb4);have BR4:=a_ (blk_below BR3.out hb4);have NR4:=a_ (Nat.le_trans HB3.out.size hb4.size);clear hb4 ho4;have ht0:=(bC_ BS4.out 0).trans rfl;have ht1:=(bC_ BS4.out 1).trans rfl;have ht2:=(bC_ BS4.out 2).trans rfl;have htf0:=bF_ BS4.out 0;have htf1:=bF_ BS4.out 1;have htf2:=bF_ BS4.out 2;have hy0:=(bC_ BR4.out 0).trans rfl;have hy1:=(bC_ BR4.out 1).trans rfl;have hy2:=(bC_ BR4.out 2).trans rfl;have hyf0:=bF_ BR4.out 0;have hyf1:=bF_ BR4.out 1;have hyf2:=bF_ BR4.out 2)))
   (try simp only [Exit.inBlock,Exit.then])
   refine bodyPost_ret (results_ct rfl _ _ gR 25 #[.slice A0_0 l0_0.length c0_0,.int .i64 a0_1,.bool true] (0,0) _ rfl ((blk_set (blk_set (blk_set BR4.out 0 _) 1 _) 2 _).trans rfl) Tryd.underlying25 rfl (by kernel_rfl)) rfl ?_
   exact ⟨_,rfl,Or.inr ⟨rfl,rfl,rfl⟩,wS_ (wS_ (wS_ HB4.out GR.out) GR.out) GR.out⟩
end Go.Proofs.YtdpklbomhdpimaaDoor.P
namespace Go.Proofs.YtdpklbomhdpimaaDoor.P
open Go.RowKit Go.Proofs.YtdpklbomhdpimaaDoorW.PrintWords Go.Proofs.YtdpklbomhdpimaaDoorW.PrintLast
def spec_l13Copy.f (l0_0:List (S44)) (a0_1:Int) (a0_2:Bool):Option ((List (S44))×Int×Bool):=(some (([]:List (S44)):List (S44))).bind fun y488=>(if y488.length+l0_0.length < 2199023255552 then (some ((y488++l0_0),a0_1,a0_2)) else (none))
theorem spec_l13Copy.calls (A0_0:Option Addr) (c0_0:Nat) (l0_0:List (S44)) (a0_1:Int) (a0_2:Bool) (r1:List (S44)) (r2:Int) (r3:Bool) (w:World) (hr0_0:Kd.C k44 w A0_0 l0_0.length l0_0) (hc0_0:l0_0.length≤c0_0) (h:spec_l13Copy.f l0_0 a0_1 a0_2=some (r1,r2,r3)) :
  Calls Tryd.prog 77 #[.agg #[.slice A0_0 l0_0.length c0_0,.int .i64 a0_1,.bool a0_2]] w fun e w'=>∃ v0_:Value,e=.returned (.agg #[v0_,.int .i64 r2,.bool r3])∧Kd.R k44 44 w' w.heap.size (fun _=>True) v0_ r1∧Below w.heap.size w w':=by
 have hu25:=Tryd.underlying25
 have HR0_0:=a_ hr0_0
 have HC0_0:=a_ hc0_0
 clear hr0_0 hc0_0
 have HB:=a_ (Below.refl w.heap.size w)
 unfold spec_l13Copy.f at h
 have H:=h
 clear h
 obtain ⟨y488,hy488⟩:∃ y_:List (S44),y_=(([]:List (S44))):=⟨_,rfl⟩
 replace H:(if y488.length+l0_0.length < 2199023255552 then (some ((y488++l0_0),a0_1,a0_2)) else (none))=some (r1,r2,r3):=by first|(rw [hy488];with_reducible exact H)|(have H2_:=(Option.bind_some _ _).symm.trans H;rw [hy488];with_reducible exact H2_)|(have H2_:=(Option.bind_some _ _).symm.trans H;with_reducible exact H2_)|with_reducible exact H|(rw [hy488];exact H)|exact H
 have Ny488:=a_ hy488
 clear hy488
 by_cases c2:y488.length+l0_0.length < 2199023255552
 ·rw [if_pos c2] at H
  have LMc2:=a_ c2
  clear c2
  obtain ⟨y491,hy491⟩:∃ y_:List (S44),y_=(y488++l0_0):=⟨_,rfl⟩
  replace H:(some (y491,a0_1,a0_2))=some (r1,r2,r3):=by first|(rw [hy491];with_reducible exact H)|(have H2_:=(Option.bind_some _ _).symm.trans H;rw [hy491];with_reducible exact H2_)|(have H2_:=(Option.bind_some _ _).symm.trans H;with_reducible exact H2_)|with_reducible exact H|(rw [hy491];exact H)|exact H
  have Ny491:=a_ hy491
  clear hy491
  simp only [Option.some.injEq,Prod.mk.injEq] at H
  obtain ⟨rfl,rfl,rfl⟩:=H
  go_enter Tryd.func77,Tryd.ntmps77
  go_wp2_with (first|((with_reducible refine gD_ (N:=1) rfl ?_);refine bx_ 1 (#[.slice A0_0 l0_0.length c0_0,.int .i64 a0_1,.bool a0_2]) 25 ?_;intro gb486 hg w3 hbox hb;have n0_:=a_ (bS_ (bel_) hb);have n1_:=a_ (hbox);have n2_:=a_ ((by rw [hg];exact (below_size (bel_)):w.heap.size≤gb486));have n3_:=a_ ((by rw [hg];exact (below_size (bel_)):w.heap.size≤gb486));clear HB;have HB:=n0_;have BK486:=n1_;have GW486:=n2_;have GE486:=n3_;clear n0_ n1_ n2_ n3_;clear hb hbox hg)|((with_reducible refine gD_ (N:=2) rfl ?_);refine bx_ 2 (#[.slice none 0 0,.int .i64 0,.bool false]) 25 ?_;intro gb487 hg w4 hbox hb;have n0_:=a_ (bb_ BK486.out hb);have n1_:=a_ (bS_ (bel_) hb);have n2_:=a_ (hbox);have n3_:=a_ ((by rw [hg];exact (below_size (bel_)):w.heap.size≤gb487));have n4_:=a_ ((by rw [hg];exact (below_size (bel_)):w.heap.size≤gb487));have n5_:=a_ ((by rw [hg];exact Nat.ne_of_lt (blk_lt (g:=gb486) (o:=.cells #[.slice A0_0 l0_0.length c0_0,.int .i64 a0_1,.bool a0_2] 25 (0,0)) (bp_ BK486.out)):gb486≠gb487));have n6_:=a_ ((by rw [hg];exact Nat.ne_of_gt (blk_lt (g:=gb486) (o:=.cells #[.slice A0_0 l0_0.length c0_0,.int .i64 a0_1,.bool a0_2] 25 (0,0)) (bp_ BK486.out)):gb487≠gb486));clear BK486;clear HB;have BK486:=n0_;have HB:=n1_;have BK487:=n2_;have GW487:=n3_;have GE487:=n4_;have NB486_487:=n5_;have NB487_486:=n6_;clear n0_ n1_ n2_ n3_ n4_ n5_ n6_;clear hb hbox hg)|((with_reducible refine gD_ (N:=3) rfl ?_);refine Kd.R_lit k44 _ 44 ?hg (N:=3) ?hd (xs:=([]:List (S44))) (inner:=[]) (ok:=fun _=>True) (okp:=fun _=>True) ?hr ?hp (fun _ hk=>hk) trivial (Below.refl _ _) (Nat.le_refl _) (by simp) ?_;(case hd=>rfl);(case hg=>rfl);(case hr=>first|(go_simp;done)|(go_simp;rfl));(case hp=>exact (Reps.none _ _));intro v489 w5 ho6 hb hg_ hnew_;clear hg_ hnew_;(first|rw [←Ny488.out] at ho6|(simp only [Int.reduceToNat] at ho6;rw [←Ny488.out] at ho6));have HO490:=a_ (Kd.R_lower ho6 (below_size (bel_)));replace HB:=a_ (bS_ (bel_) hb);replace BK486:=a_ (bb_ BK486.out hb);replace BK487:=a_ (bb_ BK487.out hb);clear hb ho6;have hnb7:=NB486_487.out;have hnc7:=NB487_486.out;have Z8_0:=cz_ BK486.out 0 (.slice A0_0 l0_0.length c0_0);have Z8_1:=cz_ BK486.out 1 (.int .i64 a0_1);have Z8_2:=cz_ BK486.out 2 (.bool a0_2);have Y8_0:=bF_ BK486.out 0;have Y8_1:=bF_ BK486.out 1;have Y8_2:=bF_ BK486.out 2)|((with_reducible refine gate_builtin (b:=.append) (xs:=#[.tmp 3,.tmp 5]) rfl ?_);at_builtin;refine Kd.R_append_rows k44 (w0:=w) w.heap.size rfl (.tmp 3) (.tmp 5) 23 44 (.agg #[(.int .i64 0),(.int .i64 0),(.int .i64 0),(.int .i64 0),(.int .i64 0),(.int .i64 0),(.string ⟨#[]⟩)]) 64 rfl Tryd.underlying23 info44 rfl (by decide) (by omega) v489 y488 l0_0 _ _ _ (fun _=>True) (fun _=>False) rfl rfl ?aO ?aR (fun _ _ h=>h) (fun _ h=>h.elim) ?aF ?aB ?aS ?aL ?_;(case aR=>exact cx_ (Kd.C_below HR0_0.out HB.out));(case aB=>exact (bel_));(case aF=>exact (fun _ _=>trivial));(case aO=>exact (rp_ HO490.out));(case aS=>exact (below_size (bel_)));(case aL=>have:=LMc2.out;omega);intro v492 w9 ho hb hg hat;rw [←Ny491.out] at ho;replace BK486:=a_ (blk_grown (g:=gb486) (o:=.cells #[.slice A0_0 l0_0.length c0_0,.int .i64 a0_1,.bool a0_2] 25 (0,0)) (bp_ BK486.out) hg (Kd.R_ne HO490.out BK486.out (by decide)));replace BK487:=a_ (blk_grown (g:=gb487) (o:=.cells #[.slice none 0 0,.int .i64 0,.bool false] 25 (0,0)) (bp_ BK487.out) hg (Kd.R_ne HO490.out BK487.out (by decide)));replace HB:=a_ (hb);have HO493:=a_ (ho);clear HO490;clear ho hb hg hat;obtain ⟨Ao10,co10,eo10⟩:=Kd.R_slice HO493.out;subst eo10;have Z11_0:=cz_ BK486.out 0 (.slice A0_0 l0_0.length c0_0);have Z11_1:=cz_ BK486.out 1 (.int .i64 a0_1);have Z11_2:=cz_ BK486.out 2 (.bool a0_2);have Y11_0:=bF_ BK486.out 0;have Y11_1:=bF_ BK486.out 1;have Y11_2:=bF_ BK486.out 2;have Z12_0:=cz_ BK487.out 0 (.slice none 0 0);have Z12_1:=cz_ BK487.out 1 (.int .i64 0);have Z12_2:=cz_ BK487.out 2 (.bool false);have Y12_0:=bF_ BK487.out 0;have Y12_1:=bF_ BK487.out 1;have Y12_2:=bF_ BK487.out 2))
  refine bodyPost_ret (results_cell_row rfl _ _ gb487 25 #[.slice Ao10 y491.length co10,.int .i64 a0_1,.bool a0_2] (0,0) _ rfl (by (with_reducible repeat (first|refine bN_ ?_ _|refine bD_ ?_|refine bA_ ?_ _));refine blk_put (cs:=#[.slice Ao10 y491.length co10,.int .i64 a0_1,.bool false]) ?_ 2 _ rfl;(with_reducible repeat (first|refine bN_ ?_ _|refine bD_ ?_|refine bA_ ?_ _));refine blk_put (cs:=#[.slice Ao10 y491.length co10,.int .i64 0,.bool false]) ?_ 1 _ rfl;(with_reducible repeat (first|refine bN_ ?_ _|refine bD_ ?_|refine bA_ ?_ _));refine blk_put (cs:=#[.slice none 0 0,.int .i64 0,.bool false]) ?_ 0 _ rfl;(with_reducible repeat (first|refine bN_ ?_ _|refine bD_ ?_|refine bA_ ?_ _));refine blk_far ?_ NB487_486.out _;(with_reducible repeat (first|refine bN_ ?_ _|refine bD_ ?_|refine bA_ ?_ _));exact BK487.out) Tryd.underlying25 rfl (by kernel_rfl)) rfl ?_
  exact ⟨_,fi_,by (with_reducible repeat (first|apply Kd.R_alloc|apply Kd.R_drewN|apply Kd.R_drew));exact Kd.R_mono (Kd.R_far (p:=⟨gb487,2,none⟩) (Kd.R_far (p:=⟨gb487,1,none⟩) (Kd.R_far (p:=⟨gb487,0,none⟩) (Kd.R_far (p:=⟨gb486,0,none⟩) (Kd.R_types (Kd.R_types HO493.out BK486.out (by decide)) BK487.out (by decide)) (fun _ hk=>hk.1.2) (.slice Ao10 y491.length co10)) (fun _ hk=>hk.2) (.slice Ao10 y491.length co10)) (fun _ hk=>hk.2) (.int .i64 a0_1)) (fun _ hk=>hk.2) (.bool a0_2)) (fun _ hk=>trivial),bel_⟩
 ·rw [if_neg c2] at H
  exact absurd H (by simp)

def spec_ServerHear.j0:Nat→Bool→List (S44)→Int→Bool→Int→Int→Int→Int→Int→Int→ByteArray→Option ((List (S44))×Int×Bool×Bool)
 | 0,_,_,_,_,_,_,_,_,_,_,_=>none
 | k+1,x13,x495000,x495001,x495002,x496000,x496001,x496002,x496003,x496004,x496005,x496006=>if x13=true then (some (([]:List (S44)),0,false,false)) else ((spec_l13Copy.f x495000 x495001 x495002).bind fun bt499=>((spec_l13Hear.f k bt499.1 bt499.2.1 bt499.2.2 x496000 x496001 x496002 x496003 x496004 x496005 x496006).bind fun bt504=>(some (bt504.1,bt504.2.1,bt504.2.2.1,bt504.2.2.2))))
def spec_ServerHear.f (k:Nat) (l0_0:List (S44)) (a0_1:Int) (a0_2:Bool) (a1_0:Int) (a1_1:Int) (a1_2:Int) (a1_3:Int) (a1_4:Int) (a1_5:Int) (a1_6:ByteArray):Option ((List (S44))×Int×Bool×Bool):=(spec_ServerOk.f k l0_0 a0_1 a0_2).bind fun t497=>(if t497=true then ((spec_EntryOk.f k a1_0 a1_1 a1_2 a1_3 a1_4 a1_5 a1_6).bind fun t498=>(spec_ServerHear.j0 k (!t498) l0_0 a0_1 a0_2 a1_0 a1_1 a1_2 a1_3 a1_4 a1_5 a1_6)) else (spec_ServerHear.j0 k true l0_0 a0_1 a0_2 a1_0 a1_1 a1_2 a1_3 a1_4 a1_5 a1_6))
theorem spec_ServerHear.mono_l:∀ k,(∀ y0 y1 y2 y3 y4 y5 y6 y7 y8 y9 y10,LeO (spec_ServerHear.j0 k y0 y1 y2 y3 y4 y5 y6 y7 y8 y9 y10) (spec_ServerHear.j0 (k+1) y0 y1 y2 y3 y4 y5 y6 y7 y8 y9 y10))
 | 0=>fun _ _ _ _ _ _ _ _ _ _ _ r h=>by simp [spec_ServerHear.j0] at h
 | k+1=>by
  have ih0:=spec_ServerHear.mono_l k
  ·intro y0 y1 y2 y3 y4 y5 y6 y7 y8 y9 y10
   unfold spec_ServerHear.j0
   repeat' first
   | (with_reducible exact ih0 _ _ _ _ _ _ _ _ _ _ _)
   | (with_reducible exact spec_EntryOk.mono _ _ _ _ _ _ _ _)
   | (with_reducible exact spec_ServerOk.mono _ _ _ _)
   | (with_reducible exact spec_l13Hear.mono _ _ _ _ _ _ _ _ _ _ _)
   | (with_reducible exact LeO.refl _)
   | (with_reducible exact LeO.none _)
   | (with_reducible refine LeO.ite ?_ ?_)
   | (with_reducible refine LeO.bind ?_ (fun _=>?_))
   | exact ih0 _ _ _ _ _ _ _ _ _ _ _
   | exact spec_EntryOk.mono _ _ _ _ _ _ _ _
   | exact spec_ServerOk.mono _ _ _ _
   | exact spec_l13Hear.mono _ _ _ _ _ _ _ _ _ _ _
   | exact LeO.none _
   | refine LeO.ite ?_ ?_
   | refine LeO.bind ?_ (fun _=>?_)
theorem spec_ServerHear.mono:∀ a0 a1 a2 a3 a4 a5 a6 a7 a8 a9 k,LeO (spec_ServerHear.f k a0 a1 a2 a3 a4 a5 a6 a7 a8 a9) (spec_ServerHear.f (k+1) a0 a1 a2 a3 a4 a5 a6 a7 a8 a9):=by
 intro a0 a1 a2 a3 a4 a5 a6 a7 a8 a9 k
 have ih0:=spec_ServerHear.mono_l k
 unfold spec_ServerHear.f
 repeat' first
   | (with_reducible exact ih0 _ _ _ _ _ _ _ _ _ _ _)
   | (with_reducible exact spec_EntryOk.mono _ _ _ _ _ _ _ _)
   | (with_reducible exact spec_ServerOk.mono _ _ _ _)
   | (with_reducible exact spec_l13Hear.mono _ _ _ _ _ _ _ _ _ _ _)
   | (with_reducible exact LeO.refl _)
   | (with_reducible exact LeO.none _)
   | (with_reducible refine LeO.ite ?_ ?_)
   | (with_reducible refine LeO.bind ?_ (fun _=>?_))
   | exact ih0 _ _ _ _ _ _ _ _ _ _ _
   | exact spec_EntryOk.mono _ _ _ _ _ _ _ _
   | exact spec_ServerOk.mono _ _ _ _
   | exact spec_l13Hear.mono _ _ _ _ _ _ _ _ _ _ _
   | exact LeO.none _
   | refine LeO.ite ?_ ?_
   | refine LeO.bind ?_ (fun _=>?_)
def spec_ServerHear.T3:Bool×List (List Nat×List Nat):=(true,[([],[]),([0],[0]),([],[]),([1,2,1],[1,2]),([3],[3]),([3],[3]),([4,3,0,1,2,3,4,5],[4]),([5,6,0,1,2,3,4,5,6],[5])])
def spec_ServerHear.B3:List Nat:=[0,1,0,7,15,15,63,127]
theorem spec_ServerHear.tab3:rtab .any (opsOf Tryd.f21 3)=spec_ServerHear.T3:=by kernel_rfl
theorem spec_ServerHear.bits3:waitsOk spec_ServerHear.T3.2 spec_ServerHear.B3=true:=by kernel_rfl
theorem spec_ServerHear.calls (k:Nat) (A0_0:Option Addr) (c0_0:Nat) (l0_0:List (S44)) (a0_1:Int) (a0_2:Bool) (a1_0:Int) (a1_1:Int) (a1_2:Int) (a1_3:Int) (a1_4:Int) (a1_5:Int) (a1_6:ByteArray) (r1:List (S44)) (r2:Int) (r3:Bool) (r4:Bool) (w:World) (hr0_0:Kd.C k44 w A0_0 l0_0.length l0_0) (hc0_0:l0_0.length≤c0_0) (h:spec_ServerHear.f k l0_0 a0_1 a0_2 a1_0 a1_1 a1_2 a1_3 a1_4 a1_5 a1_6=some (r1,r2,r3,r4)) :
  Calls Tryd.prog 21 #[.agg #[.slice A0_0 l0_0.length c0_0,.int .i64 a0_1,.bool a0_2],.agg #[.int .i64 a1_0,.int .i64 a1_1,.int .i64 a1_2,.int .i64 a1_3,.int .i64 a1_4,.int .i64 a1_5,.string a1_6]] w fun e w'=>∃ v0_:Value,e=.returned (.tuple #[.agg #[v0_,.int .i64 r2,.bool r3],.bool r4])∧Kd.R k44 44 w' w.heap.size (fun _=>True) v0_ r1∧Below w.heap.size w w':=by
 have hu25:=Tryd.underlying25
 have hu44:=Tryd.underlying44
 have HR0_0:=a_ hr0_0
 have HC0_0:=a_ hc0_0
 clear hr0_0 hc0_0
 have HB:=a_ (Below.refl w.heap.size w)
 unfold spec_ServerHear.f at h
 have H:=h
 clear h
 have HC3:=a_ H
 clear H
 go_enter Tryd.func21,Tryd.ntmps21
 go_upto_region 1 with (first|((with_reducible refine gD_ (N:=2) rfl ?_);refine bx_ 2 (#[.slice A0_0 l0_0.length c0_0,.int .i64 a0_1,.bool a0_2]) 25 ?_;intro gb494 hg w4 hbox hb;have n0_:=a_ (bS_ (bel_) hb);have n1_:=a_ (hbox);have n2_:=a_ ((by rw [hg];exact (below_size (bel_)):w.heap.size≤gb494));have n3_:=a_ ((by rw [hg];exact (below_size (bel_)):w.heap.size≤gb494));clear HB;have HB:=n0_;have BK494:=n1_;have GW494:=n2_;have GE494:=n3_;clear n0_ n1_ n2_ n3_;clear hb hbox hg)|((with_reducible refine gD_ (N:=3) rfl ?_);refine bx_ 3 (#[.int .i64 a1_0,.int .i64 a1_1,.int .i64 a1_2,.int .i64 a1_3,.int .i64 a1_4,.int .i64 a1_5,.string a1_6]) 44 ?_;intro gb495 hg w5 hbox hb;have n0_:=a_ (bb_ BK494.out hb);have n1_:=a_ (bS_ (bel_) hb);have n2_:=a_ (hbox);have n3_:=a_ ((by rw [hg];exact (below_size (bel_)):w.heap.size≤gb495));have n4_:=a_ ((by rw [hg];exact (below_size (bel_)):w.heap.size≤gb495));have n5_:=a_ ((by rw [hg];exact Nat.ne_of_lt (blk_lt (g:=gb494) (o:=.cells #[.slice A0_0 l0_0.length c0_0,.int .i64 a0_1,.bool a0_2] 25 (0,0)) (bp_ BK494.out)):gb494≠gb495));have n6_:=a_ ((by rw [hg];exact Nat.ne_of_gt (blk_lt (g:=gb494) (o:=.cells #[.slice A0_0 l0_0.length c0_0,.int .i64 a0_1,.bool a0_2] 25 (0,0)) (bp_ BK494.out)):gb495≠gb494));clear BK494;clear HB;have BK494:=n0_;have HB:=n1_;have BK495:=n2_;have GW495:=n3_;have GE495:=n4_;have NB494_495:=n5_;have NB495_494:=n6_;clear n0_ n1_ n2_ n3_ n4_ n5_ n6_;clear hb hbox hg)|((with_reducible refine gD_ (N:=4) rfl ?_);refine bx_ 4 (#[.slice none 0 0,.int .i64 0,.bool false]) 25 ?_;intro gb496 hg w6 hbox hb;have n0_:=a_ (bb_ BK494.out hb);have n1_:=a_ (bb_ BK495.out hb);have n2_:=a_ (bS_ (bel_) hb);have n3_:=a_ (hbox);have n4_:=a_ ((by rw [hg];exact (below_size (bel_)):w.heap.size≤gb496));have n5_:=a_ ((by rw [hg];exact (below_size (bel_)):w.heap.size≤gb496));have n6_:=a_ ((by rw [hg];exact Nat.ne_of_lt (blk_lt (g:=gb494) (o:=.cells #[.slice A0_0 l0_0.length c0_0,.int .i64 a0_1,.bool a0_2] 25 (0,0)) (bp_ BK494.out)):gb494≠gb496));have n7_:=a_ ((by rw [hg];exact Nat.ne_of_gt (blk_lt (g:=gb494) (o:=.cells #[.slice A0_0 l0_0.length c0_0,.int .i64 a0_1,.bool a0_2] 25 (0,0)) (bp_ BK494.out)):gb496≠gb494));have n8_:=a_ ((by rw [hg];exact Nat.ne_of_lt (blk_lt (g:=gb495) (o:=.cells #[.int .i64 a1_0,.int .i64 a1_1,.int .i64 a1_2,.int .i64 a1_3,.int .i64 a1_4,.int .i64 a1_5,.string a1_6] 44 (0,0)) (bp_ BK495.out)):gb495≠gb496));have n9_:=a_ ((by rw [hg];exact Nat.ne_of_gt (blk_lt (g:=gb495) (o:=.cells #[.int .i64 a1_0,.int .i64 a1_1,.int .i64 a1_2,.int .i64 a1_3,.int .i64 a1_4,.int .i64 a1_5,.string a1_6] 44 (0,0)) (bp_ BK495.out)):gb496≠gb495));clear BK494;clear BK495;clear HB;have BK494:=n0_;have BK495:=n1_;have HB:=n2_;have BK496:=n3_;have GW496:=n4_;have GE496:=n5_;have NB494_496:=n6_;have NB496_494:=n7_;have NB495_496:=n8_;have NB496_495:=n9_;clear n0_ n1_ n2_ n3_ n4_ n5_ n6_ n7_ n8_ n9_;clear hb hbox hg))
 (try simp only [Act.put,List.setIfInBounds_toArray,List.set_cons_zero,List.set_cons_succ])
 go_cut [13] (fun v13 wc=>∃ (kq:Nat) (x13_2:Bool),v13=.bool x13_2∧Aside0 (spec_ServerHear.j0 kq x13_2 l0_0 a0_1 a0_2 a1_0 a1_1 a1_2 a1_3 a1_4 a1_5 a1_6=some (r1,r2,r3,r4))∧Aside0 (kq≤k)∧Aside0 (wc.heap[gb494]?=some (.cells #[(.slice A0_0 l0_0.length c0_0),.int .i64 a0_1,.bool a0_2] 25 (0,0)))∧Aside0 (wc.heap[gb495]?=some (.cells #[.int .i64 a1_0,.int .i64 a1_1,.int .i64 a1_2,.int .i64 a1_3,.int .i64 a1_4,.int .i64 a1_5,.string a1_6] 44 (0,0)))∧Aside0 (wc.heap[gb496]?=some (.cells #[(.slice none 0 0),.int .i64 0,.bool false] 25 (0,0)))∧Aside0 (Below w.heap.size w wc))
 case first =>
  have H:=HC3.out
  clear HC3
  replace H:=bs_ H
  obtain ⟨t497,A70,H⟩:=H
  try dsimp only at H
  have A7:=a_ A70
  clear A70
  by_cases c8:t497=true
  ·subst c8
   have H1:((spec_EntryOk.f k a1_0 a1_1 a1_2 a1_3 a1_4 a1_5 a1_6).bind fun t498=>(spec_ServerHear.j0 k (!t498) l0_0 a0_1 a0_2 a1_0 a1_1 a1_2 a1_3 a1_4 a1_5 a1_6))=some (r1,r2,r3,r4):=by rw [if_pos rfl] at H;exact H
   clear H
   have H:=H1
   clear H1
   replace H:=bs_ H
   obtain ⟨t498,A90,H⟩:=H
   try dsimp only at H
   have A9:=a_ A90
   clear A90
   have H':=a_ H
   clear H
   have hnb10:=NB494_495.out
   have hnc10:=NB495_494.out
   have hnb11:=NB494_496.out
   have hnc11:=NB496_494.out
   have Z12_0:=cz_ BK494.out 0 (.slice A0_0 l0_0.length c0_0)
   have Z12_1:=cz_ BK494.out 1 (.int .i64 a0_1)
   have Z12_2:=cz_ BK494.out 2 (.bool a0_2)
   have Y12_0:=bF_ BK494.out 0
   have Y12_1:=bF_ BK494.out 1
   have Y12_2:=bF_ BK494.out 2
   go_wp2_with (first|((with_reducible refine gC_ (f:=17) rfl ?_);refine gl_ 7 Tryd.func17 #[.agg #[.slice A0_0 l0_0.length c0_0,.int .i64 a0_1,.bool a0_2]] ?_;(with_reducible refine (spec_ServerOk.calls k _ _ l0_0 a0_1 a0_2 true _ ?side1 ?side2 A7.out).mono ?_);(case side1=>exact cp_ HR0_0.out);(case side2=>exact HC0_0.out);rintro e w13 ⟨rfl,hb⟩;refine ⟨_,rfl,?_⟩;replace HB:=a_ (bS_ (bel_) hb);replace BK494:=a_ (bb_ BK494.out hb);replace BK495:=a_ (bb_ BK495.out hb);replace BK496:=a_ (bb_ BK496.out hb);(try clear hb);have hnb14:=NB495_496.out;have hnc14:=NB496_495.out;have Z15_0:=cz_ BK495.out 0 (.int .i64 a1_0);have Z15_1:=cz_ BK495.out 1 (.int .i64 a1_1);have Z15_2:=cz_ BK495.out 2 (.int .i64 a1_2);have Z15_3:=cz_ BK495.out 3 (.int .i64 a1_3);have Z15_4:=cz_ BK495.out 4 (.int .i64 a1_4);have Z15_5:=cz_ BK495.out 5 (.int .i64 a1_5);have Z15_6:=cz_ BK495.out 6 (.string a1_6);have Y15_0:=bF_ BK495.out 0;have Y15_1:=bF_ BK495.out 1;have Y15_2:=bF_ BK495.out 2;have Y15_3:=bF_ BK495.out 3;have Y15_4:=bF_ BK495.out 4;have Y15_5:=bF_ BK495.out 5;have Y15_6:=bF_ BK495.out 6)|(go_at_call 30;(with_reducible refine (spec_EntryOk.calls k a1_0 a1_1 a1_2 a1_3 a1_4 a1_5 a1_6 t498 _ A9.out).mono ?_);rintro e w16 ⟨rfl,hb⟩;replace HB:=a_ (bS_ (bel_) hb);replace BK494:=a_ (bb_ BK494.out hb);replace BK495:=a_ (bb_ BK495.out hb);replace BK496:=a_ (bb_ BK496.out hb);(try clear hb)))
   go_meet
   case rel=>exact ⟨_,(!t498),(si_),H',⟨by first|omega|exact Nat.le_refl _⟩,⟨by (with_reducible repeat (first|refine bN_ ?_ _|refine bD_ ?_|refine bA_ ?_ _));exact BK494.out⟩,⟨by (with_reducible repeat (first|refine bN_ ?_ _|refine bD_ ?_|refine bA_ ?_ _));exact BK495.out⟩,⟨by (with_reducible repeat (first|refine bN_ ?_ _|refine bD_ ?_|refine bA_ ?_ _));exact BK496.out⟩,⟨bel_⟩⟩
  ·replace c8:=Bool.eq_false_iff.mpr c8
   subst c8
   have H1:(spec_ServerHear.j0 k true l0_0 a0_1 a0_2 a1_0 a1_1 a1_2 a1_3 a1_4 a1_5 a1_6)=some (r1,r2,r3,r4):=by rw [if_neg (show ¬ (false=true) by decide)] at H;exact H
   clear H
   have H:=H1
   clear H1
   have H':=a_ H
   clear H
   have hnb17:=NB494_495.out
   have hnc17:=NB495_494.out
   have hnb18:=NB494_496.out
   have hnc18:=NB496_494.out
   have Z19_0:=cz_ BK494.out 0 (.slice A0_0 l0_0.length c0_0)
   have Z19_1:=cz_ BK494.out 1 (.int .i64 a0_1)
   have Z19_2:=cz_ BK494.out 2 (.bool a0_2)
   have Y19_0:=bF_ BK494.out 0
   have Y19_1:=bF_ BK494.out 1
   have Y19_2:=bF_ BK494.out 2
   go_wp2_with (first|((with_reducible refine gC_ (f:=17) rfl ?_);refine gl_ 7 Tryd.func17 #[.agg #[.slice A0_0 l0_0.length c0_0,.int .i64 a0_1,.bool a0_2]] ?_;(with_reducible refine (spec_ServerOk.calls k _ _ l0_0 a0_1 a0_2 false _ ?side1 ?side2 A7.out).mono ?_);(case side1=>exact cp_ HR0_0.out);(case side2=>exact HC0_0.out);rintro e w20 ⟨rfl,hb⟩;refine ⟨_,rfl,?_⟩;replace HB:=a_ (bS_ (bel_) hb);replace BK494:=a_ (bb_ BK494.out hb);replace BK495:=a_ (bb_ BK495.out hb);replace BK496:=a_ (bb_ BK496.out hb);(try clear hb)))
   go_meet
   case rel=>exact ⟨_,(true),(si_),H',⟨by first|omega|exact Nat.le_refl _⟩,⟨by (with_reducible repeat (first|refine bN_ ?_ _|refine bD_ ?_|refine bA_ ?_ _));exact BK494.out⟩,⟨by (with_reducible repeat (first|refine bN_ ?_ _|refine bD_ ?_|refine bA_ ?_ _));exact BK495.out⟩,⟨by (with_reducible repeat (first|refine bN_ ?_ _|refine bD_ ?_|refine bA_ ?_ _));exact BK496.out⟩,⟨bel_⟩⟩
 case rest =>
  clear HC3
  try clear c1
  try clear c2
  try clear p2
  try clear c8
  try clear c10
  try clear c11
  try clear c14
  try clear c17
  try clear c18
  try clear Z12_0
  try clear Z12_1
  try clear Z12_2
  try clear Z15_0
  try clear Z15_1
  try clear Z15_2
  try clear Z15_3
  try clear Z15_4
  try clear Z15_5
  try clear Z15_6
  try clear Z19_0
  try clear Z19_1
  try clear Z19_2
  try clear Y12_0
  try clear Y12_1
  try clear Y12_2
  try clear Y15_0
  try clear Y15_1
  try clear Y15_2
  try clear Y15_3
  try clear Y15_4
  try clear Y15_5
  try clear Y15_6
  try clear Y19_0
  try clear Y19_1
  try clear Y19_2
  obtain ⟨kq,x13_2,rfl,HA,HJ2,BK494,BK495,BK496,HB⟩:=hcut
  cases kq with
  | zero=>exact absurd HA.out (by simp [spec_ServerHear.j0])
  | succ kj2 =>
   have H:=HA.out
   clear HA
   simp only [spec_ServerHear.j0] at H
   by_cases c21:x13_2=true
   ·subst c21
    have H1:(some (([]:List (S44)),0,false,false))=some (r1,r2,r3,r4):=by rw [if_pos rfl] at H;exact H
    clear H
    have H:=H1
    clear H1
    simp only [Option.some.injEq,Prod.mk.injEq] at H
    obtain ⟨rfl,rfl,rfl,rfl⟩:=H
    have hnb22:=NB496_494.out
    have hnc22:=NB494_496.out
    have hnb23:=NB496_495.out
    have hnc23:=NB495_496.out
    have Z24_0:wc.cell? ⟨gb496,0,none⟩=some (.slice none 0 0):=(bC_ BK496.out 0).trans rfl
    have Z24_1:wc.cell? ⟨gb496,1,none⟩=some (.int .i64 0):=(bC_ BK496.out 1).trans rfl
    have Z24_2:wc.cell? ⟨gb496,2,none⟩=some (.bool false):=(bC_ BK496.out 2).trans rfl
    have Y24_0:=bF_ BK496.out 0
    have Y24_1:=bF_ BK496.out 1
    have Y24_2:=bF_ BK496.out 2
    go_wp2
    refine bodyPost_ret (results_ct rfl _ _ gb496 25 #[.slice none 0 0,.int .i64 0,.bool false] (0,0) _ rfl (by (with_reducible repeat (first|refine bN_ ?_ _|refine bD_ ?_|refine bA_ ?_ _));refine blk_put (cs:=#[.slice none 0 0,.int .i64 0,.bool false]) ?_ 2 _ rfl;(with_reducible repeat (first|refine bN_ ?_ _|refine bD_ ?_|refine bA_ ?_ _));refine blk_put (cs:=#[.slice none 0 0,.int .i64 0,.bool false]) ?_ 1 _ rfl;(with_reducible repeat (first|refine bN_ ?_ _|refine bD_ ?_|refine bA_ ?_ _));refine blk_put (cs:=#[.slice none 0 0,.int .i64 0,.bool false]) ?_ 0 _ rfl;(with_reducible repeat (first|refine bN_ ?_ _|refine bD_ ?_|refine bA_ ?_ _));exact BK496.out) Tryd.underlying25 rfl (by kernel_rfl)) rfl ?_
    exact ⟨_,fi_,by first|exact Kd.R_nil _ _ _ _ _|exact Kd.N_nil _ _ _ _ _|exact Kd.V_nil _ _ _ _ _|exact Kd.Q_nil _ _ _ _ _|exact Kd.S_nil _ _ _ _ _,bel_⟩
   ·replace c21:=Bool.eq_false_iff.mpr c21
    subst c21
    have H1:((spec_l13Copy.f l0_0 a0_1 a0_2).bind fun bt499=>((spec_l13Hear.f kj2 bt499.1 bt499.2.1 bt499.2.2 a1_0 a1_1 a1_2 a1_3 a1_4 a1_5 a1_6).bind fun bt504=>(some (bt504.1,bt504.2.1,bt504.2.2.1,bt504.2.2.2))))=some (r1,r2,r3,r4):=by rw [if_neg (show ¬ (false=true) by decide)] at H;exact H
    clear H
    have H:=H1
    clear H1
    replace H:=bs_ H
    obtain ⟨⟨t499,t502,t503⟩,A250,H⟩:=H
    try dsimp only at H
    have A25:=a_ A250
    clear A250
    replace H:=bs_ H
    obtain ⟨⟨t504,t507,t508,t509⟩,A260,H⟩:=H
    try dsimp only at H
    have A26:=a_ A260
    clear A260
    simp only [Option.some.injEq,Prod.mk.injEq] at H
    obtain ⟨rfl,rfl,rfl,rfl⟩:=H
    try go_wp2
    have n0_:=a_ (bD_ BK494.out)
    have n1_:=a_ (bD_ BK495.out)
    have n2_:=a_ (bD_ BK496.out)
    have n3_:=a_ (below_drew1 HB.out)
    clear BK494
    clear BK495
    clear BK496
    clear HB
    have BK494:=n0_
    have BK495:=n1_
    have BK496:=n2_
    have HB:=n3_
    clear n0_ n1_ n2_ n3_
    refine start_ (n:=8) (S:=fun w'=>w'.cell? ⟨gb494,0,none⟩=some (.slice A0_0 l0_0.length c0_0)∧w'.cell? ⟨gb494,1,none⟩=some (.int .i64 a0_1)∧w'.cell? ⟨gb494,2,none⟩=some (.bool a0_2)∧w'.cell? ⟨gb495,0,none⟩=some (.int .i64 a1_0)∧w'.cell? ⟨gb495,1,none⟩=some (.int .i64 a1_1)∧w'.cell? ⟨gb495,2,none⟩=some (.int .i64 a1_2)∧w'.cell? ⟨gb495,3,none⟩=some (.int .i64 a1_3)∧w'.cell? ⟨gb495,4,none⟩=some (.int .i64 a1_4)∧w'.cell? ⟨gb495,5,none⟩=some (.int .i64 a1_5)∧w'.cell? ⟨gb495,6,none⟩=some (.string a1_6)) (ds:=[]) #[false,false,false,false,false,false,false,false] (by kernel_rfl) rfl rfl ⟨(bC_ BK494.out 0).trans rfl,(bC_ BK494.out 1).trans rfl,(bC_ BK494.out 2).trans rfl,(bC_ BK495.out 0).trans rfl,(bC_ BK495.out 1).trans rfl,(bC_ BK495.out 2).trans rfl,(bC_ BK495.out 3).trans rfl,(bC_ BK495.out 4).trans rfl,(bC_ BK495.out 5).trans rfl,(bC_ BK495.out 6).trans rfl⟩ (fun hHeld=>?_);refine with_tabW spec_ServerHear.tab3 spec_ServerHear.bits3 (fun HT_ HW_=>?_)
    generalize wc.drew=w27 at BK494 BK495 BK496 HB hHeld ⊢
    refine ta10_ 0 15 hHeld ?_
    refine ta10_ 2 17 hHeld ?_
    refine on_ 1 16 (fun K hK=>?_)
    refine goes_ Tryd.func77 (by kernel_rfl) rfl #[.agg #[.slice A0_0 l0_0.length c0_0,.int .i64 a0_1,.bool a0_2]] (by rfl) rfl rfl ar_ ?_
    with_reducible refine (spec_l13Copy.calls _ _ l0_0 a0_1 a0_2 t499 t502 t503 _ ?side1 ?side2 A25.out).mono ?_
    (case side1=>exact cp_ HR0_0.out)
    (case side2=>exact HC0_0.out)
    rintro e w28 ⟨v500,rfl,ho0,hb⟩
    refine ⟨_,rfl,?_⟩
    have n0_:=a_ (Kd.R_lower (Kd.R_newB ho0 (g:=gb495) (o:=.cells #[.int .i64 a1_0,.int .i64 a1_1,.int .i64 a1_2,.int .i64 a1_3,.int .i64 a1_4,.int .i64 a1_5,.string a1_6] 44 (0,0)) (bp_ BK495.out)) (below_size (bel_)))
    have n1_:=a_ (bb_ BK494.out hb)
    have n2_:=a_ (bb_ BK495.out hb)
    have n3_:=a_ (bb_ BK496.out hb)
    have n4_:=a_ (bS_ (bel_) hb)
    clear BK494
    clear BK495
    clear BK496
    clear HB
    have HO501:=n0_
    have BK494:=n1_
    have BK495:=n2_
    have BK496:=n3_
    have HB:=n4_
    clear n0_ n1_ n2_ n3_ n4_
    (try clear hb)
    (try clear hb2)
    (try clear hk)
    (try clear hi)
    (try clear ho0)
    obtain ⟨Ao29,co29,eo29⟩:=Kd.R_slice HO501.out
    (first|subst eo29|(injection eo29 with f1_ f2_ f3_;have f4_:=f1_.symm;have f5_:=f3_.symm;clear f1_ f2_ f3_;subst f4_;subst f5_))
    refine hK.out _ _ ⟨(bC_ BK494.out 0).trans rfl,(bC_ BK494.out 1).trans rfl,(bC_ BK494.out 2).trans rfl,(bC_ BK495.out 0).trans rfl,(bC_ BK495.out 1).trans rfl,(bC_ BK495.out 2).trans rfl,(bC_ BK495.out 3).trans rfl,(bC_ BK495.out 4).trans rfl,(bC_ BK495.out 5).trans rfl,(bC_ BK495.out 6).trans rfl⟩ (fun hHeld=>?_)
    clear hK K
    refine no_ 16 ?_
    refine on_ 3 18 (fun K hK=>?_)
    refine goes_ Tryd.func76 (by kernel_rfl) rfl #[.agg #[.slice Ao29 t499.length co29,.int .i64 t502,.bool t503],.agg #[.int .i64 a1_0,.int .i64 a1_1,.int .i64 a1_2,.int .i64 a1_3,.int .i64 a1_4,.int .i64 a1_5,.string a1_6]] (by rfl) rfl rfl ar_ ?_
    with_reducible refine (spec_l13Hear.calls kj2 _ _ t499 t502 t503 a1_0 a1_1 a1_2 a1_3 a1_4 a1_5 a1_6 t504 t507 t508 t509 _ ?side1 ?side2 A26.out).mono ?_
    (case side1=>exact cx_ (Kd.R_reads' HO501.out).2.2)
    (case side2=>exact (Kd.R_reads' HO501.out).2.1)
    rintro e w30 ⟨v505,rfl,ho0,hb⟩
    refine ⟨_,rfl,?_⟩
    have n0_:=a_ True.intro
    have n1_:=a_ (ho0.own (rp_ HO501.out) hb (below_size (bel_)))
    have n2_:=a_ (bb_ BK494.out hb)
    have n3_:=a_ (bb_ BK495.out hb)
    have n4_:=a_ (bb_ BK496.out hb)
    have n5_:=a_ (bS_ (bel_) hb)
    clear HO501
    clear BK494
    clear BK495
    clear BK496
    clear HB
    have HO501:=n0_
    have HO506:=n1_
    have BK494:=n2_
    have BK495:=n3_
    have BK496:=n4_
    have HB:=n5_
    clear n0_ n1_ n2_ n3_ n4_ n5_
    (try clear hb)
    (try clear hb2)
    (try clear hk)
    (try clear hi)
    (try clear ho0)
    obtain ⟨Ao31,co31,eo31⟩:=Kd.R_slice HO506.out
    (first|subst eo31|(injection eo31 with f1_ f2_ f3_;have f4_:=f1_.symm;have f5_:=f3_.symm;clear f1_ f2_ f3_;subst f4_;subst f5_))
    refine hK.out _ _ ⟨(bC_ BK494.out 0).trans rfl,(bC_ BK494.out 1).trans rfl,(bC_ BK494.out 2).trans rfl,(bC_ BK495.out 0).trans rfl,(bC_ BK495.out 1).trans rfl,(bC_ BK495.out 2).trans rfl,(bC_ BK495.out 3).trans rfl,(bC_ BK495.out 4).trans rfl,(bC_ BK495.out 5).trans rfl,(bC_ BK495.out 6).trans rfl⟩ (fun hHeld=>?_)
    clear hK K
    refine no_ 18 ?_
    refine pa_ 4 19 ?_
    refine pa_ 5 20 ?_
    refine one_ (i:=6) (N:=none) #[true,true,true,true,true,true,true,false] rfl rfl (one_of HT_.out (by kernel_rfl)) (by decide) (fun K hK=>?_)
    have hs32:w30.cell? ⟨gb496,0,none⟩=some (.slice none 0 0):=(bC_ BK496.out 0).trans rfl
    have hfs32:=bF_ BK496.out 0
    have hns32_0:=NB494_496.out
    have hns32_1:=NB495_496.out
    have hms32_0:=NB496_494.out
    have hms32_1:=NB496_495.out
    have hs33:w30.cell? ⟨gb496,1,none⟩=some (.int .i64 0):=(bC_ BK496.out 1).trans rfl
    have hfs33:=bF_ BK496.out 1
    have hns33_0:=NB494_496.out
    have hns33_1:=NB495_496.out
    have hms33_0:=NB496_494.out
    have hms33_1:=NB496_495.out
    have hs34:w30.cell? ⟨gb496,2,none⟩=some (.bool false):=(bC_ BK496.out 2).trans rfl
    have hfs34:=bF_ BK496.out 2
    have hns34_0:=NB494_496.out
    have hns34_1:=NB495_496.out
    have hms34_0:=NB496_494.out
    have hms34_1:=NB496_495.out
    refine skip_ (w1:=?_) (by rfl) rfl ?_ ?_
    rotate_left
    ·go_simp
     rfl
    refine hK.out _ _ ⟨((cF_ (p:=⟨gb496,_,none⟩) NB494_496.out _).trans (((cF_ (p:=⟨gb496,_,none⟩) NB494_496.out _).trans (((cF_ (p:=⟨gb496,_,none⟩) NB494_496.out _).trans (hHeld.1)))))),((cF_ (p:=⟨gb496,_,none⟩) NB494_496.out _).trans (((cF_ (p:=⟨gb496,_,none⟩) NB494_496.out _).trans (((cF_ (p:=⟨gb496,_,none⟩) NB494_496.out _).trans (hHeld.2.1)))))),((cF_ (p:=⟨gb496,_,none⟩) NB494_496.out _).trans (((cF_ (p:=⟨gb496,_,none⟩) NB494_496.out _).trans (((cF_ (p:=⟨gb496,_,none⟩) NB494_496.out _).trans (hHeld.2.2.1)))))),((cF_ (p:=⟨gb496,_,none⟩) NB495_496.out _).trans (((cF_ (p:=⟨gb496,_,none⟩) NB495_496.out _).trans (((cF_ (p:=⟨gb496,_,none⟩) NB495_496.out _).trans (hHeld.2.2.2.1)))))),((cF_ (p:=⟨gb496,_,none⟩) NB495_496.out _).trans (((cF_ (p:=⟨gb496,_,none⟩) NB495_496.out _).trans (((cF_ (p:=⟨gb496,_,none⟩) NB495_496.out _).trans (hHeld.2.2.2.2.1)))))),((cF_ (p:=⟨gb496,_,none⟩) NB495_496.out _).trans (((cF_ (p:=⟨gb496,_,none⟩) NB495_496.out _).trans (((cF_ (p:=⟨gb496,_,none⟩) NB495_496.out _).trans (hHeld.2.2.2.2.2.1)))))),((cF_ (p:=⟨gb496,_,none⟩) NB495_496.out _).trans (((cF_ (p:=⟨gb496,_,none⟩) NB495_496.out _).trans (((cF_ (p:=⟨gb496,_,none⟩) NB495_496.out _).trans (hHeld.2.2.2.2.2.2.1)))))),((cF_ (p:=⟨gb496,_,none⟩) NB495_496.out _).trans (((cF_ (p:=⟨gb496,_,none⟩) NB495_496.out _).trans (((cF_ (p:=⟨gb496,_,none⟩) NB495_496.out _).trans (hHeld.2.2.2.2.2.2.2.1)))))),((cF_ (p:=⟨gb496,_,none⟩) NB495_496.out _).trans (((cF_ (p:=⟨gb496,_,none⟩) NB495_496.out _).trans (((cF_ (p:=⟨gb496,_,none⟩) NB495_496.out _).trans (hHeld.2.2.2.2.2.2.2.2.1)))))),((cF_ (p:=⟨gb496,_,none⟩) NB495_496.out _).trans (((cF_ (p:=⟨gb496,_,none⟩) NB495_496.out _).trans (((cF_ (p:=⟨gb496,_,none⟩) NB495_496.out _).trans (hHeld.2.2.2.2.2.2.2.2.2))))))⟩ (fun hHeld=>?_)
    clear hK K
    refine pa_ 7 5 ?_
    refine done_ (done_of HT_.out (by kernel_rfl)) ?_
    try go_wp2
    refine bodyPost_ret (results_ct rfl _ _ gb496 25 #[.slice Ao31 t504.length co31,.int .i64 t507,.bool t508] (0,0) _ rfl (by (with_reducible repeat (first|refine bN_ ?_ _|refine bD_ ?_|refine bA_ ?_ _));refine blk_put (cs:=#[.slice Ao31 t504.length co31,.int .i64 t507,.bool false]) ?_ 2 _ rfl;(with_reducible repeat (first|refine bN_ ?_ _|refine bD_ ?_|refine bA_ ?_ _));refine blk_put (cs:=#[.slice Ao31 t504.length co31,.int .i64 0,.bool false]) ?_ 1 _ rfl;(with_reducible repeat (first|refine bN_ ?_ _|refine bD_ ?_|refine bA_ ?_ _));refine blk_put (cs:=#[.slice none 0 0,.int .i64 0,.bool false]) ?_ 0 _ rfl;(with_reducible repeat (first|refine bN_ ?_ _|refine bD_ ?_|refine bA_ ?_ _));exact BK496.out) Tryd.underlying25 rfl (by kernel_rfl)) rfl ?_
    exact ⟨_,fi_,by (with_reducible repeat (first|apply Kd.R_alloc|apply Kd.R_drewN|apply Kd.R_drew));exact Kd.R_mono (Kd.R_far (p:=⟨gb496,2,none⟩) (Kd.R_far (p:=⟨gb496,1,none⟩) (Kd.R_far (p:=⟨gb496,0,none⟩) (Kd.R_types HO506.out BK496.out (by decide)) (fun _ hk=>hk.2) (.slice Ao31 t504.length co31)) (fun _ hk=>hk.2) (.int .i64 t507)) (fun _ hk=>hk.2) (.bool t508)) (fun _ hk=>trivial),bel_⟩

def laws_toOp.f (a0_0:Int) (a0_1:Int) (a0_2:Int) (a0_3:Int) (a0_4:ByteArray):Option (Int×Int×Int×Int×ByteArray):=some (a0_0,a0_1,a0_2,a0_3,a0_4)
theorem laws_toOp.calls (a0_0:Int) (a0_1:Int) (a0_2:Int) (a0_3:Int) (a0_4:ByteArray) (r1:Int) (r2:Int) (r3:Int) (r4:Int) (r5:ByteArray) (w:World) (h:laws_toOp.f a0_0 a0_1 a0_2 a0_3 a0_4=some (r1,r2,r3,r4,r5)) :
  Calls Tryd.prog 68 #[.agg #[.int .i64 a0_0,.int .i64 a0_1,.int .i64 a0_2,.int .i64 a0_3,.string a0_4]] w fun e w'=>e=.returned (.agg #[.int .i64 r1,.int .i64 r2,.int .i64 r3,.int .i64 r4,.string r5])∧Below w.heap.size w w':=by
 have hu34:=Tryd.underlying34
 have hu42:=Tryd.underlying42
 have HB:=a_ (Below.refl w.heap.size w)
 unfold laws_toOp.f at h
 have H:=h
 clear h
 simp only [Option.some.injEq,Prod.mk.injEq] at H
 obtain ⟨rfl,rfl,rfl,rfl,rfl⟩:=H
 go_enter Tryd.func68,Tryd.ntmps68
 go_wp2_with (first|((with_reducible refine gD_ (N:=1) rfl ?_);refine bx_ 1 (#[.int .i64 a0_0,.int .i64 a0_1,.int .i64 a0_2,.int .i64 a0_3,.string a0_4]) 34 ?_;intro gb510 hg w2 hbox hb;have n0_:=a_ (bS_ (bel_) hb);have n1_:=a_ (hbox);have n2_:=a_ ((by rw [hg];exact (below_size (bel_)):w.heap.size≤gb510));have n3_:=a_ ((by rw [hg];exact (below_size (bel_)):w.heap.size≤gb510));clear HB;have HB:=n0_;have BK510:=n1_;have GW510:=n2_;have GE510:=n3_;clear n0_ n1_ n2_ n3_;clear hb hbox hg)|((with_reducible refine gD_ (N:=2) rfl ?_);refine bx_ 2 (#[.int .i64 0,.int .i64 0,.int .i64 0,.int .i64 0,.string (⟨#[]⟩:ByteArray)]) 42 ?_;intro gb511 hg w3 hbox hb;have n0_:=a_ (bb_ BK510.out hb);have n1_:=a_ (bS_ (bel_) hb);have n2_:=a_ (hbox);have n3_:=a_ ((by rw [hg];exact (below_size (bel_)):w.heap.size≤gb511));have n4_:=a_ ((by rw [hg];exact (below_size (bel_)):w.heap.size≤gb511));have n5_:=a_ ((by rw [hg];exact Nat.ne_of_lt (blk_lt (g:=gb510) (o:=.cells #[.int .i64 a0_0,.int .i64 a0_1,.int .i64 a0_2,.int .i64 a0_3,.string a0_4] 34 (0,0)) (bp_ BK510.out)):gb510≠gb511));have n6_:=a_ ((by rw [hg];exact Nat.ne_of_gt (blk_lt (g:=gb510) (o:=.cells #[.int .i64 a0_0,.int .i64 a0_1,.int .i64 a0_2,.int .i64 a0_3,.string a0_4] 34 (0,0)) (bp_ BK510.out)):gb511≠gb510));clear BK510;clear HB;have BK510:=n0_;have HB:=n1_;have BK511:=n2_;have GW511:=n3_;have GE511:=n4_;have NB510_511:=n5_;have NB511_510:=n6_;clear n0_ n1_ n2_ n3_ n4_ n5_ n6_;clear hb hbox hg)|((with_reducible refine gD_ (N:=3) rfl ?_);refine bx_ 3 (#[.int .i64 0,.int .i64 0,.int .i64 0,.int .i64 0,.string (⟨#[]⟩:ByteArray)]) 42 ?_;intro gb512 hg w4 hbox hb;have n0_:=a_ (bb_ BK510.out hb);have n1_:=a_ (bb_ BK511.out hb);have n2_:=a_ (bS_ (bel_) hb);have n3_:=a_ (hbox);have n4_:=a_ ((by rw [hg];exact (below_size (bel_)):w.heap.size≤gb512));have n5_:=a_ ((by rw [hg];exact (below_size (bel_)):w.heap.size≤gb512));have n6_:=a_ ((by rw [hg];exact Nat.ne_of_lt (blk_lt (g:=gb510) (o:=.cells #[.int .i64 a0_0,.int .i64 a0_1,.int .i64 a0_2,.int .i64 a0_3,.string a0_4] 34 (0,0)) (bp_ BK510.out)):gb510≠gb512));have n7_:=a_ ((by rw [hg];exact Nat.ne_of_gt (blk_lt (g:=gb510) (o:=.cells #[.int .i64 a0_0,.int .i64 a0_1,.int .i64 a0_2,.int .i64 a0_3,.string a0_4] 34 (0,0)) (bp_ BK510.out)):gb512≠gb510));have n8_:=a_ ((by rw [hg];exact Nat.ne_of_lt (blk_lt (g:=gb511) (o:=.cells #[.int .i64 0,.int .i64 0,.int .i64 0,.int .i64 0,.string (⟨#[]⟩:ByteArray)] 42 (0,0)) (bp_ BK511.out)):gb511≠gb512));have n9_:=a_ ((by rw [hg];exact Nat.ne_of_gt (blk_lt (g:=gb511) (o:=.cells #[.int .i64 0,.int .i64 0,.int .i64 0,.int .i64 0,.string (⟨#[]⟩:ByteArray)] 42 (0,0)) (bp_ BK511.out)):gb512≠gb511));clear BK510;clear BK511;clear HB;have BK510:=n0_;have BK511:=n1_;have HB:=n2_;have BK512:=n3_;have GW512:=n4_;have GE512:=n5_;have NB510_512:=n6_;have NB512_510:=n7_;have NB511_512:=n8_;have NB512_511:=n9_;clear n0_ n1_ n2_ n3_ n4_ n5_ n6_ n7_ n8_ n9_;clear hb hbox hg;have hnb5:=NB510_511.out;have hnc5:=NB511_510.out;have hnb6:=NB510_512.out;have hnc6:=NB512_510.out;have Z7_0:=cz_ BK510.out 0 (.int .i64 a0_0);have Z7_1:=cz_ BK510.out 1 (.int .i64 a0_1);have Z7_2:=cz_ BK510.out 2 (.int .i64 a0_2);have Z7_3:=cz_ BK510.out 3 (.int .i64 a0_3);have Z7_4:=cz_ BK510.out 4 (.string a0_4);have Y7_0:=bF_ BK510.out 0;have Y7_1:=bF_ BK510.out 1;have Y7_2:=bF_ BK510.out 2;have Y7_3:=bF_ BK510.out 3;have Y7_4:=bF_ BK510.out 4;have hnb8:=NB512_511.out;have hnc8:=NB511_512.out;have Z9_0:=cz_ BK512.out 0 (.int .i64 0);have Z9_1:=cz_ BK512.out 1 (.int .i64 0);have Z9_2:=cz_ BK512.out 2 (.int .i64 0);have Z9_3:=cz_ BK512.out 3 (.int .i64 0);have Z9_4:=cz_ BK512.out 4 (.string (⟨#[]⟩:ByteArray));have Y9_0:=bF_ BK512.out 0;have Y9_1:=bF_ BK512.out 1;have Y9_2:=bF_ BK512.out 2;have Y9_3:=bF_ BK512.out 3;have Y9_4:=bF_ BK512.out 4;have Z10_0:=cz_ BK511.out 0 (.int .i64 0);have Z10_1:=cz_ BK511.out 1 (.int .i64 0);have Z10_2:=cz_ BK511.out 2 (.int .i64 0);have Z10_3:=cz_ BK511.out 3 (.int .i64 0);have Z10_4:=cz_ BK511.out 4 (.string (⟨#[]⟩:ByteArray));have Y10_0:=bF_ BK511.out 0;have Y10_1:=bF_ BK511.out 1;have Y10_2:=bF_ BK511.out 2;have Y10_3:=bF_ BK511.out 3;have Y10_4:=bF_ BK511.out 4))
 refine bodyPost_ret (results_cell_row rfl _ _ gb511 42 #[.int .i64 a0_0,.int .i64 a0_1,.int .i64 a0_2,.int .i64 a0_3,.string a0_4] (0,0) _ rfl (by (with_reducible repeat (first|refine bN_ ?_ _|refine bD_ ?_|refine bA_ ?_ _));refine blk_put (cs:=#[.int .i64 a0_0,.int .i64 a0_1,.int .i64 a0_2,.int .i64 a0_3,.string (⟨#[]⟩:ByteArray)]) ?_ 4 _ rfl;(with_reducible repeat (first|refine bN_ ?_ _|refine bD_ ?_|refine bA_ ?_ _));refine blk_put (cs:=#[.int .i64 a0_0,.int .i64 a0_1,.int .i64 a0_2,.int .i64 0,.string (⟨#[]⟩:ByteArray)]) ?_ 3 _ rfl;(with_reducible repeat (first|refine bN_ ?_ _|refine bD_ ?_|refine bA_ ?_ _));refine blk_put (cs:=#[.int .i64 a0_0,.int .i64 a0_1,.int .i64 0,.int .i64 0,.string (⟨#[]⟩:ByteArray)]) ?_ 2 _ rfl;(with_reducible repeat (first|refine bN_ ?_ _|refine bD_ ?_|refine bA_ ?_ _));refine blk_put (cs:=#[.int .i64 a0_0,.int .i64 0,.int .i64 0,.int .i64 0,.string (⟨#[]⟩:ByteArray)]) ?_ 1 _ rfl;(with_reducible repeat (first|refine bN_ ?_ _|refine bD_ ?_|refine bA_ ?_ _));refine blk_put (cs:=#[.int .i64 0,.int .i64 0,.int .i64 0,.int .i64 0,.string (⟨#[]⟩:ByteArray)]) ?_ 0 _ rfl;(with_reducible repeat (first|refine bN_ ?_ _|refine bD_ ?_|refine bA_ ?_ _));refine blk_far ?_ NB511_512.out _;(with_reducible repeat (first|refine bN_ ?_ _|refine bD_ ?_|refine bA_ ?_ _));refine blk_far ?_ NB511_512.out _;(with_reducible repeat (first|refine bN_ ?_ _|refine bD_ ?_|refine bA_ ?_ _));refine blk_far ?_ NB511_512.out _;(with_reducible repeat (first|refine bN_ ?_ _|refine bD_ ?_|refine bA_ ?_ _));refine blk_far ?_ NB511_512.out _;(with_reducible repeat (first|refine bN_ ?_ _|refine bD_ ?_|refine bA_ ?_ _));refine blk_far ?_ NB511_512.out _;(with_reducible repeat (first|refine bN_ ?_ _|refine bD_ ?_|refine bA_ ?_ _));exact BK511.out) Tryd.underlying42 rfl (by kernel_rfl)) rfl ?_
 exact ⟨fi_,bel_⟩

def laws_toEntry.f (a0_0:Int) (a0_1:Int) (a0_2:Int) (a0_3:Int) (a0_4:Int) (a0_5:Int) (a0_6:ByteArray):Option (Int×Int×Int×Int×Int×Int×ByteArray):=(laws_toOp.f a0_2 a0_3 a0_4 a0_5 a0_6).bind fun bt516=>(some (a0_0,a0_1,bt516.1,bt516.2.1,bt516.2.2.1,bt516.2.2.2.1,bt516.2.2.2.2))
theorem laws_toEntry.calls (a0_0:Int) (a0_1:Int) (a0_2:Int) (a0_3:Int) (a0_4:Int) (a0_5:Int) (a0_6:ByteArray) (r1:Int) (r2:Int) (r3:Int) (r4:Int) (r5:Int) (r6:Int) (r7:ByteArray) (w:World) (h:laws_toEntry.f a0_0 a0_1 a0_2 a0_3 a0_4 a0_5 a0_6=some (r1,r2,r3,r4,r5,r6,r7)) :
  Calls Tryd.prog 23 #[.agg #[.int .i64 a0_0,.int .i64 a0_1,.int .i64 a0_2,.int .i64 a0_3,.int .i64 a0_4,.int .i64 a0_5,.string a0_6]] w fun e w'=>e=.returned (.agg #[.int .i64 r1,.int .i64 r2,.int .i64 r3,.int .i64 r4,.int .i64 r5,.int .i64 r6,.string r7])∧Below w.heap.size w w':=by
 have hu36:=Tryd.underlying36
 have hu44:=Tryd.underlying44
 have hu34:=Tryd.underlying34
 have hu42:=Tryd.underlying42
 have HB:=a_ (Below.refl w.heap.size w)
 unfold laws_toEntry.f at h
 have H:=h
 clear h
 replace H:=bs_ H
 obtain ⟨⟨t516,t517,t518,t519,t520⟩,A20,H⟩:=H
 try dsimp only at H
 have A2:=a_ A20
 clear A20
 simp only [Option.some.injEq,Prod.mk.injEq] at H
 obtain ⟨rfl,rfl,rfl,rfl,rfl,rfl,rfl⟩:=H
 go_enter Tryd.func23,Tryd.ntmps23
 go_wp2_with (first|((with_reducible refine gD_ (N:=1) rfl ?_);refine bx_ 1 (#[.int .i64 a0_0,.int .i64 a0_1,.int .i64 a0_2,.int .i64 a0_3,.int .i64 a0_4,.int .i64 a0_5,.string a0_6]) 36 ?_;intro gb513 hg w3 hbox hb;have n0_:=a_ (bS_ (bel_) hb);have n1_:=a_ (hbox);have n2_:=a_ ((by rw [hg];exact (below_size (bel_)):w.heap.size≤gb513));have n3_:=a_ ((by rw [hg];exact (below_size (bel_)):w.heap.size≤gb513));clear HB;have HB:=n0_;have BK513:=n1_;have GW513:=n2_;have GE513:=n3_;clear n0_ n1_ n2_ n3_;clear hb hbox hg)|((with_reducible refine gD_ (N:=2) rfl ?_);refine bx_ 2 (#[.int .i64 0,.int .i64 0,.int .i64 0,.int .i64 0,.int .i64 0,.int .i64 0,.string (⟨#[]⟩:ByteArray)]) 44 ?_;intro gb514 hg w4 hbox hb;have n0_:=a_ (bb_ BK513.out hb);have n1_:=a_ (bS_ (bel_) hb);have n2_:=a_ (hbox);have n3_:=a_ ((by rw [hg];exact (below_size (bel_)):w.heap.size≤gb514));have n4_:=a_ ((by rw [hg];exact (below_size (bel_)):w.heap.size≤gb514));have n5_:=a_ ((by rw [hg];exact Nat.ne_of_lt (blk_lt (g:=gb513) (o:=.cells #[.int .i64 a0_0,.int .i64 a0_1,.int .i64 a0_2,.int .i64 a0_3,.int .i64 a0_4,.int .i64 a0_5,.string a0_6] 36 (0,0)) (bp_ BK513.out)):gb513≠gb514));have n6_:=a_ ((by rw [hg];exact Nat.ne_of_gt (blk_lt (g:=gb513) (o:=.cells #[.int .i64 a0_0,.int .i64 a0_1,.int .i64 a0_2,.int .i64 a0_3,.int .i64 a0_4,.int .i64 a0_5,.string a0_6] 36 (0,0)) (bp_ BK513.out)):gb514≠gb513));clear BK513;clear HB;have BK513:=n0_;have HB:=n1_;have BK514:=n2_;have GW514:=n3_;have GE514:=n4_;have NB513_514:=n5_;have NB514_513:=n6_;clear n0_ n1_ n2_ n3_ n4_ n5_ n6_;clear hb hbox hg)|((with_reducible refine gD_ (N:=3) rfl ?_);refine bx_ 3 (#[.int .i64 0,.int .i64 0,.int .i64 0,.int .i64 0,.int .i64 0,.int .i64 0,.string (⟨#[]⟩:ByteArray)]) 44 ?_;intro gb515 hg w5 hbox hb;have n0_:=a_ (bb_ BK513.out hb);have n1_:=a_ (bb_ BK514.out hb);have n2_:=a_ (bS_ (bel_) hb);have n3_:=a_ (hbox);have n4_:=a_ ((by rw [hg];exact (below_size (bel_)):w.heap.size≤gb515));have n5_:=a_ ((by rw [hg];exact (below_size (bel_)):w.heap.size≤gb515));have n6_:=a_ ((by rw [hg];exact Nat.ne_of_lt (blk_lt (g:=gb513) (o:=.cells #[.int .i64 a0_0,.int .i64 a0_1,.int .i64 a0_2,.int .i64 a0_3,.int .i64 a0_4,.int .i64 a0_5,.string a0_6] 36 (0,0)) (bp_ BK513.out)):gb513≠gb515));have n7_:=a_ ((by rw [hg];exact Nat.ne_of_gt (blk_lt (g:=gb513) (o:=.cells #[.int .i64 a0_0,.int .i64 a0_1,.int .i64 a0_2,.int .i64 a0_3,.int .i64 a0_4,.int .i64 a0_5,.string a0_6] 36 (0,0)) (bp_ BK513.out)):gb515≠gb513));have n8_:=a_ ((by rw [hg];exact Nat.ne_of_lt (blk_lt (g:=gb514) (o:=.cells #[.int .i64 0,.int .i64 0,.int .i64 0,.int .i64 0,.int .i64 0,.int .i64 0,.string (⟨#[]⟩:ByteArray)] 44 (0,0)) (bp_ BK514.out)):gb514≠gb515));have n9_:=a_ ((by rw [hg];exact Nat.ne_of_gt (blk_lt (g:=gb514) (o:=.cells #[.int .i64 0,.int .i64 0,.int .i64 0,.int .i64 0,.int .i64 0,.int .i64 0,.string (⟨#[]⟩:ByteArray)] 44 (0,0)) (bp_ BK514.out)):gb515≠gb514));clear BK513;clear BK514;clear HB;have BK513:=n0_;have BK514:=n1_;have HB:=n2_;have BK515:=n3_;have GW515:=n4_;have GE515:=n5_;have NB513_515:=n6_;have NB515_513:=n7_;have NB514_515:=n8_;have NB515_514:=n9_;clear n0_ n1_ n2_ n3_ n4_ n5_ n6_ n7_ n8_ n9_;clear hb hbox hg;have hnb6:=NB513_514.out;have hnc6:=NB514_513.out;have hnb7:=NB513_515.out;have hnc7:=NB515_513.out;have Z8_0:=cz_ BK513.out 0 (.int .i64 a0_0);have Z8_1:=cz_ BK513.out 1 (.int .i64 a0_1);have Z8_2:=cz_ BK513.out 2 (.int .i64 a0_2);have Z8_3:=cz_ BK513.out 3 (.int .i64 a0_3);have Z8_4:=cz_ BK513.out 4 (.int .i64 a0_4);have Z8_5:=cz_ BK513.out 5 (.int .i64 a0_5);have Z8_6:=cz_ BK513.out 6 (.string a0_6);have Y8_0:=bF_ BK513.out 0;have Y8_1:=bF_ BK513.out 1;have Y8_2:=bF_ BK513.out 2;have Y8_3:=bF_ BK513.out 3;have Y8_4:=bF_ BK513.out 4;have Y8_5:=bF_ BK513.out 5;have Y8_6:=bF_ BK513.out 6;have hnb9:=NB515_514.out;have hnc9:=NB514_515.out;have Z10_0:=cz_ BK515.out 0 (.int .i64 0);have Z10_1:=cz_ BK515.out 1 (.int .i64 0);have Z10_2:=cz_ BK515.out 2 (.int .i64 0);have Z10_3:=cz_ BK515.out 3 (.int .i64 0);have Z10_4:=cz_ BK515.out 4 (.int .i64 0);have Z10_5:=cz_ BK515.out 5 (.int .i64 0);have Z10_6:=cz_ BK515.out 6 (.string (⟨#[]⟩:ByteArray));have Y10_0:=bF_ BK515.out 0;have Y10_1:=bF_ BK515.out 1;have Y10_2:=bF_ BK515.out 2;have Y10_3:=bF_ BK515.out 3;have Y10_4:=bF_ BK515.out 4;have Y10_5:=bF_ BK515.out 5;have Y10_6:=bF_ BK515.out 6)|((with_reducible refine gC_ (f:=68) rfl ?_);refine gl_ 12 Tryd.func68 #[.agg #[.int .i64 a0_2,.int .i64 a0_3,.int .i64 a0_4,.int .i64 a0_5,.string a0_6]] ?_;(with_reducible refine (laws_toOp.calls a0_2 a0_3 a0_4 a0_5 a0_6 t516 t517 t518 t519 t520 _ A2.out).mono ?_);rintro e w11 ⟨rfl,hb⟩;refine ⟨_,rfl,?_⟩;have n0_:=a_ (blk_below (g:=gb513) (o:=.cells #[.int .i64 a0_0,.int .i64 a0_1,.int .i64 a0_2,.int .i64 a0_3,.int .i64 a0_4,.int .i64 a0_5,.string a0_6] 36 (0,0)) (by (with_reducible repeat (first|refine bN_ ?_ _|refine bD_ ?_|refine bA_ ?_ _));refine blk_far ?_ NB513_515.out _;(with_reducible repeat (first|refine bN_ ?_ _|refine bD_ ?_|refine bA_ ?_ _));refine blk_far ?_ NB513_515.out _;(with_reducible repeat (first|refine bN_ ?_ _|refine bD_ ?_|refine bA_ ?_ _));exact BK513.out) hb);have n1_:=a_ (blk_below (g:=gb514) (o:=.cells #[.int .i64 0,.int .i64 0,.int .i64 0,.int .i64 0,.int .i64 0,.int .i64 0,.string (⟨#[]⟩:ByteArray)] 44 (0,0)) (by (with_reducible repeat (first|refine bN_ ?_ _|refine bD_ ?_|refine bA_ ?_ _));refine blk_far ?_ NB514_515.out _;(with_reducible repeat (first|refine bN_ ?_ _|refine bD_ ?_|refine bA_ ?_ _));refine blk_far ?_ NB514_515.out _;(with_reducible repeat (first|refine bN_ ?_ _|refine bD_ ?_|refine bA_ ?_ _));exact BK514.out) hb);have n2_:=a_ (blk_below (g:=gb515) (o:=.cells #[.int .i64 a0_0,.int .i64 a0_1,.int .i64 0,.int .i64 0,.int .i64 0,.int .i64 0,.string (⟨#[]⟩:ByteArray)] 44 (0,0)) (by (with_reducible repeat (first|refine bN_ ?_ _|refine bD_ ?_|refine bA_ ?_ _));refine blk_put (cs:=#[.int .i64 a0_0,.int .i64 0,.int .i64 0,.int .i64 0,.int .i64 0,.int .i64 0,.string (⟨#[]⟩:ByteArray)]) ?_ 1 _ rfl;(with_reducible repeat (first|refine bN_ ?_ _|refine bD_ ?_|refine bA_ ?_ _));refine blk_put (cs:=#[.int .i64 0,.int .i64 0,.int .i64 0,.int .i64 0,.int .i64 0,.int .i64 0,.string (⟨#[]⟩:ByteArray)]) ?_ 0 _ rfl;(with_reducible repeat (first|refine bN_ ?_ _|refine bD_ ?_|refine bA_ ?_ _));exact BK515.out) hb);have n3_:=a_ (bS_ (bel_) hb);clear BK513;clear BK514;clear BK515;clear HB;have BK513:=n0_;have BK514:=n1_;have BK515:=n2_;have HB:=n3_;clear n0_ n1_ n2_ n3_;(try clear hb);have Z12_0:=cz_ BK515.out 0 (.int .i64 a0_0);have Z12_1:=cz_ BK515.out 1 (.int .i64 a0_1);have Z12_2:=cz_ BK515.out 2 (.int .i64 0);have Z12_3:=cz_ BK515.out 3 (.int .i64 0);have Z12_4:=cz_ BK515.out 4 (.int .i64 0);have Z12_5:=cz_ BK515.out 5 (.int .i64 0);have Z12_6:=cz_ BK515.out 6 (.string (⟨#[]⟩:ByteArray));have Y12_0:=bF_ BK515.out 0;have Y12_1:=bF_ BK515.out 1;have Y12_2:=bF_ BK515.out 2;have Y12_3:=bF_ BK515.out 3;have Y12_4:=bF_ BK515.out 4;have Y12_5:=bF_ BK515.out 5;have Y12_6:=bF_ BK515.out 6;have Z13_0:=cz_ BK514.out 0 (.int .i64 0);have Z13_1:=cz_ BK514.out 1 (.int .i64 0);have Z13_2:=cz_ BK514.out 2 (.int .i64 0);have Z13_3:=cz_ BK514.out 3 (.int .i64 0);have Z13_4:=cz_ BK514.out 4 (.int .i64 0);have Z13_5:=cz_ BK514.out 5 (.int .i64 0);have Z13_6:=cz_ BK514.out 6 (.string (⟨#[]⟩:ByteArray));have Y13_0:=bF_ BK514.out 0;have Y13_1:=bF_ BK514.out 1;have Y13_2:=bF_ BK514.out 2;have Y13_3:=bF_ BK514.out 3;have Y13_4:=bF_ BK514.out 4;have Y13_5:=bF_ BK514.out 5;have Y13_6:=bF_ BK514.out 6))
 refine bodyPost_ret (results_cell_row rfl _ _ gb514 44 #[.int .i64 a0_0,.int .i64 a0_1,.int .i64 t516,.int .i64 t517,.int .i64 t518,.int .i64 t519,.string t520] (0,0) _ rfl (by (with_reducible repeat (first|refine bN_ ?_ _|refine bD_ ?_|refine bA_ ?_ _));refine blk_put (cs:=#[.int .i64 a0_0,.int .i64 a0_1,.int .i64 t516,.int .i64 t517,.int .i64 t518,.int .i64 t519,.string (⟨#[]⟩:ByteArray)]) ?_ 6 _ rfl;(with_reducible repeat (first|refine bN_ ?_ _|refine bD_ ?_|refine bA_ ?_ _));refine blk_put (cs:=#[.int .i64 a0_0,.int .i64 a0_1,.int .i64 t516,.int .i64 t517,.int .i64 t518,.int .i64 0,.string (⟨#[]⟩:ByteArray)]) ?_ 5 _ rfl;(with_reducible repeat (first|refine bN_ ?_ _|refine bD_ ?_|refine bA_ ?_ _));refine blk_put (cs:=#[.int .i64 a0_0,.int .i64 a0_1,.int .i64 t516,.int .i64 t517,.int .i64 0,.int .i64 0,.string (⟨#[]⟩:ByteArray)]) ?_ 4 _ rfl;(with_reducible repeat (first|refine bN_ ?_ _|refine bD_ ?_|refine bA_ ?_ _));refine blk_put (cs:=#[.int .i64 a0_0,.int .i64 a0_1,.int .i64 t516,.int .i64 0,.int .i64 0,.int .i64 0,.string (⟨#[]⟩:ByteArray)]) ?_ 3 _ rfl;(with_reducible repeat (first|refine bN_ ?_ _|refine bD_ ?_|refine bA_ ?_ _));refine blk_put (cs:=#[.int .i64 a0_0,.int .i64 a0_1,.int .i64 0,.int .i64 0,.int .i64 0,.int .i64 0,.string (⟨#[]⟩:ByteArray)]) ?_ 2 _ rfl;(with_reducible repeat (first|refine bN_ ?_ _|refine bD_ ?_|refine bA_ ?_ _));refine blk_put (cs:=#[.int .i64 a0_0,.int .i64 0,.int .i64 0,.int .i64 0,.int .i64 0,.int .i64 0,.string (⟨#[]⟩:ByteArray)]) ?_ 1 _ rfl;(with_reducible repeat (first|refine bN_ ?_ _|refine bD_ ?_|refine bA_ ?_ _));refine blk_put (cs:=#[.int .i64 0,.int .i64 0,.int .i64 0,.int .i64 0,.int .i64 0,.int .i64 0,.string (⟨#[]⟩:ByteArray)]) ?_ 0 _ rfl;(with_reducible repeat (first|refine bN_ ?_ _|refine bD_ ?_|refine bA_ ?_ _));refine blk_far ?_ NB514_515.out _;(with_reducible repeat (first|refine bN_ ?_ _|refine bD_ ?_|refine bA_ ?_ _));refine blk_far ?_ NB514_515.out _;(with_reducible repeat (first|refine bN_ ?_ _|refine bD_ ?_|refine bA_ ?_ _));refine blk_far ?_ NB514_515.out _;(with_reducible repeat (first|refine bN_ ?_ _|refine bD_ ?_|refine bA_ ?_ _));refine blk_far ?_ NB514_515.out _;(with_reducible repeat (first|refine bN_ ?_ _|refine bD_ ?_|refine bA_ ?_ _));refine blk_far ?_ NB514_515.out _;(with_reducible repeat (first|refine bN_ ?_ _|refine bD_ ?_|refine bA_ ?_ _));exact BK514.out) Tryd.underlying44 rfl (by kernel_rfl)) rfl ?_
 exact ⟨fi_,bel_⟩

def laws_toEntryS.l0:Nat→List (S36)→List (S44)→Int→Option ((List (S44)))
 | 0,_,_,_=>none
 | k+1,x0,x3,x4=>if x4 < (x0.length:Int) then (if 0≤x4 then ((laws_toEntry.f ((rd_T36 x0 x4).f0) ((rd_T36 x0 x4).f1) ((rd_T36 x0 x4).f2.f0) ((rd_T36 x0 x4).f2.f1) ((rd_T36 x0 x4).f2.f2) ((rd_T36 x0 x4).f2.f3) ((rd_T36 x0 x4).f2.f4)).bind fun bt525=>(if x4 < (x3.length:Int) then (laws_toEntryS.l0 k x0 (x3.set (x4:Int).toNat (⟨bt525.1,bt525.2.1,(⟨bt525.2.2.1,bt525.2.2.2.1,bt525.2.2.2.2.1,bt525.2.2.2.2.2.1,bt525.2.2.2.2.2.2⟩:S42)⟩:S44)) (wrap64 (x4+1))) else (none))) else (none)) else (some x3)
def laws_toEntryS.f (k:Nat) (l0:List (S36)):Option ((List (S44))):=if 0≤(l0.length:Int) then (if ((l0.length:Int):Int).toNat≤4398046511104 then (laws_toEntryS.l0 k l0 (List.replicate ((l0.length:Int):Int).toNat z44) 0) else (none)) else (none)
theorem laws_toEntryS.mono_l:∀ k,(∀ y0 y1 y2,LeO (laws_toEntryS.l0 k y0 y1 y2) (laws_toEntryS.l0 (k+1) y0 y1 y2))
 | 0=>fun _ _ _ r h=>by simp [laws_toEntryS.l0] at h
 | k+1=>by
  have ih0:=laws_toEntryS.mono_l k
  ·intro y0 y1 y2
   unfold laws_toEntryS.l0
   repeat' first
   | (with_reducible exact ih0 _ _ _)
   | (with_reducible exact LeO.refl _)
   | (with_reducible exact LeO.none _)
   | (with_reducible refine LeO.ite ?_ ?_)
   | (with_reducible refine LeO.bind ?_ (fun _=>?_))
   | exact ih0 _ _ _
   | exact LeO.none _
   | refine LeO.ite ?_ ?_
   | refine LeO.bind ?_ (fun _=>?_)
theorem laws_toEntryS.mono:∀ a0 k,LeO (laws_toEntryS.f k a0) (laws_toEntryS.f (k+1) a0):=by
 intro a0 k
 have ih0:=laws_toEntryS.mono_l k
 unfold laws_toEntryS.f
 repeat' first
   | (with_reducible exact ih0 _ _ _)
   | (with_reducible exact LeO.refl _)
   | (with_reducible exact LeO.none _)
   | (with_reducible refine LeO.ite ?_ ?_)
   | (with_reducible refine LeO.bind ?_ (fun _=>?_))
   | exact ih0 _ _ _
   | exact LeO.none _
   | refine LeO.ite ?_ ?_
   | refine LeO.bind ?_ (fun _=>?_)
theorem laws_toEntryS.calls (k:Nat) (A0:Option Addr) (c0:Nat) (l0:List (S36)) (r:List (S44)) (w:World) (hr0:Kd.C k36 w A0 l0.length l0) (hc0:l0.length≤c0) (h:laws_toEntryS.f k l0=some r) :
  Calls Tryd.prog 50 #[.slice A0 l0.length c0] w fun e w'=>∃ v0_:Value,e=.returned (v0_)∧Kd.R k44 44 w' w.heap.size (fun _=>True) v0_ r∧Below w.heap.size w w':=by
 have hu36:=Tryd.underlying36
 have hu44:=Tryd.underlying44
 have HR0:=a_ hr0
 have HC0:=a_ hc0
 clear hr0 hc0
 have HB:=a_ (Below.refl w.heap.size w)
 unfold laws_toEntryS.f at h
 have H:=h
 clear h
 by_cases c2:0≤(l0.length:Int)
 ·rw [if_pos c2] at H
  have c2b0:=eq_true c2
  have c2b1:decide (0≤(l0.length:Int))=true:=dt_ c2
  clear c2
  by_cases c3:((l0.length:Int):Int).toNat≤4398046511104
  ·rw [if_pos c3] at H
   have c3b0:=eq_true c3
   have c3b1:decide (((l0.length:Int):Int).toNat≤4398046511104)=true:=dt_ c3
   clear c3
   obtain ⟨y521,hy521⟩:∃ y_:List (S44),y_=(List.replicate ((l0.length:Int):Int).toNat z44):=⟨_,rfl⟩
   replace H:(laws_toEntryS.l0 k l0 y521 0)=some r:=by first|(rw [hy521];with_reducible exact H)|(have H2_:=(Option.bind_some _ _).symm.trans H;rw [hy521];with_reducible exact H2_)|(have H2_:=(Option.bind_some _ _).symm.trans H;with_reducible exact H2_)|with_reducible exact H|(rw [hy521];exact H)|exact H
   have Ny521:=a_ hy521
   clear hy521
   have H':=a_ H
   clear H
   go_enter Tryd.func50,Tryd.ntmps50
   go_wp2_with (first|((with_reducible refine gD_ (N:=7) rfl ?_);refine Kd.R_make k44 _ 44 rfl (N:=7) rfl 23 _ _ rfl (l0.length:Int) rfl rfl Tryd.underlying23 (.agg #[(.int .i64 0),(.int .i64 0),(.int .i64 0),(.int .i64 0),(.int .i64 0),(.int .i64 0),(.string ⟨#[]⟩)]) 64 info44 rfl (by decide) (by omega) z44 (ok:=fun _=>True) (okp:=fun _=>True) (k44_mkM _ _ _ z44 ) (fun _ hk=>hk) trivial (od_) (Nat.le_trans (Nat.mul_le_mul_right _ (od_:(l0.length:Int).toNat≤4398046511104)) (by omega)) (Below.refl _ _) (Nat.le_refl _) ?_;intro v522 w4 ho5 hb hg_ hnew_;clear hg_ hnew_;(first|rw [←Ny521.out] at ho5|(simp only [Int.reduceToNat] at ho5;rw [←Ny521.out] at ho5));have HO523:=a_ (Kd.R_lower ho5 (below_size (bel_)));replace HB:=a_ (bS_ (bel_) hb);clear hb ho5))
   go_loopg [4] k (fun kq v4 w'=>∃ (x3_1:List (S44)) (x4_1:Int),v4=.int .i64 x4_1∧Aside0 (laws_toEntryS.l0 kq l0 x3_1 x4_1=some r)∧Aside0 (kq≤k)∧Aside0 (Kd.R k44 44 w' w.heap.size (fun _=>True) v522 x3_1)∧Aside0 (Below w.heap.size w w'))
   case atStart=>exact ⟨(y521),(0),(si_),H',⟨Nat.le_refl _⟩,⟨by (with_reducible repeat (first|apply Kd.R_alloc|apply Kd.R_drewN|apply Kd.R_drew));exact HO523.out⟩,⟨bel_⟩⟩
   case round =>
    clear H'
    try clear c2
    try clear c2b0
    try clear c2b1
    try clear p2
    try clear c3
    try clear c3b0
    try clear c3b1
    try clear c5
    obtain ⟨x3_1,x4_1,rfl,HA,HK1,HO_3,HB⟩:=hrel
    cases gk with
    | zero=>exact absurd HA.out (by simp [laws_toEntryS.l0])
    | succ k1 =>
     have H:=HA.out
     clear HA
     simp only [laws_toEntryS.l0] at H
     by_cases c6:x4_1 < (l0.length:Int)
     ·rw [if_pos c6] at H
      have c6b0:decide (x4_1 < (l0.length:Int))=true:=dt_ c6
      clear c6
      by_cases c7:0≤x4_1
      ·rw [if_pos c7] at H
       have c7b0:decide (0≤x4_1)=true:=dt_ c7
       clear c7
       replace H:=bs_ H
       obtain ⟨⟨t525,t526,t527,t528,t529,t530,t531⟩,A80,H⟩:=H
       try dsimp only at H
       have A8:=a_ A80
       clear A80
       by_cases c9:x4_1 < (x3_1.length:Int)
       ·rw [if_pos c9] at H
        have c9b0:decide (x4_1 < (x3_1.length:Int))=true:=dt_ c9
        clear c9
        obtain ⟨y532,hy532⟩:∃ y_:List (S44),y_=(x3_1.set (x4_1:Int).toNat (⟨t525,t526,(⟨t527,t528,t529,t530,t531⟩:S42)⟩:S44)):=⟨_,rfl⟩
        replace H:(laws_toEntryS.l0 k1 l0 y532 (wrap64 (x4_1+1)))=some r:=by first|(rw [hy532];with_reducible exact H)|(have H2_:=(Option.bind_some _ _).symm.trans H;rw [hy532];with_reducible exact H2_)|(have H2_:=(Option.bind_some _ _).symm.trans H;with_reducible exact H2_)|with_reducible exact H|(rw [hy532];exact H)|exact H
        have Ny532:=a_ hy532
        clear hy532
        have H':=a_ H
        clear H
        have p524:0≤(x4_1:Int):=od_
        have q524:x4_1 < (l0.length:Int):=od_
        obtain ⟨ad524,e524,hx524_0,hx524_1,hx524_2,hx524_3,hx524_4,hx524_5,hx524_6⟩:=at_T36 HR0.out x4_1 p524 q524
        cases e524
        replace hx524_0:=(cb_ HB.out hx524_0 :)
        replace hx524_1:=(cb_ HB.out hx524_1 :)
        replace hx524_2:=(cb_ HB.out hx524_2 :)
        replace hx524_3:=(cb_ HB.out hx524_3 :)
        replace hx524_4:=(cb_ HB.out hx524_4 :)
        replace hx524_5:=(cb_ HB.out hx524_5 :)
        replace hx524_6:=(cb_ HB.out hx524_6 :)
        replace p524:=eq_true p524
        replace q524:=eq_true q524
        go_wp2_with (first|((with_reducible refine gC_ (f:=23) rfl ?_);refine gl_ 20 Tryd.func23 #[.agg #[.int .i64 ((rd_T36 l0 x4_1).f0),.int .i64 ((rd_T36 l0 x4_1).f1),.int .i64 ((rd_T36 l0 x4_1).f2.f0),.int .i64 ((rd_T36 l0 x4_1).f2.f1),.int .i64 ((rd_T36 l0 x4_1).f2.f2),.int .i64 ((rd_T36 l0 x4_1).f2.f3),.string ((rd_T36 l0 x4_1).f2.f4)]] ?_;(with_reducible refine (laws_toEntry.calls ((rd_T36 l0 x4_1).f0) ((rd_T36 l0 x4_1).f1) ((rd_T36 l0 x4_1).f2.f0) ((rd_T36 l0 x4_1).f2.f1) ((rd_T36 l0 x4_1).f2.f2) ((rd_T36 l0 x4_1).f2.f3) ((rd_T36 l0 x4_1).f2.f4) t525 t526 t527 t528 t529 t530 t531 _ A8.out).mono ?_);rintro e w11 ⟨rfl,hb⟩;refine ⟨_,rfl,?_⟩;replace HO_3:=a_ (Kd.R_below (rp_ HO_3.out) hb);replace HB:=a_ (bS_ (bel_) hb);(try clear hb);have p10:0≤(x4_1:Int):=od_;have q10:(x4_1:Int) < ((x3_1.length:Int):Int):=od_;obtain ⟨go10,co10,eo10,gb10,gl10,cl10,HG10⟩:=Kd.R_form HO_3.out (by omega);(first|cases eo10|(injection eo10 with ea_ en_ ec_;(first|subst ea_|(injection ea_ with ea_;subst ea_));subst ec_;clear en_));have GB10:=a_ gb10;have GG10:=a_ HG10;clear gb10 gl10 HG10;obtain ⟨ce10,hcl10,hM10,hcc10,hfr10⟩:=Kd.R_elem HO_3.out z44 (x4_1:Int) p10 q10;obtain rfl:=k44_openM hM10;have hx10_0:w11.cell? ⟨go10,(x4_1:Int).toNat * 7,none⟩=some (.int .i64 ((rd_T44 x3_1 x4_1).f0)):=hcc10 0 _ rfl;have hx10_1:w11.cell? ⟨go10,(x4_1:Int).toNat * 7+1,none⟩=some (.int .i64 ((rd_T44 x3_1 x4_1).f1)):=hcc10 1 _ rfl;have hx10_2:w11.cell? ⟨go10,(x4_1:Int).toNat * 7+2,none⟩=some (.int .i64 ((rd_T44 x3_1 x4_1).f2.f0)):=hcc10 2 _ rfl;have hx10_3:w11.cell? ⟨go10,(x4_1:Int).toNat * 7+3,none⟩=some (.int .i64 ((rd_T44 x3_1 x4_1).f2.f1)):=hcc10 3 _ rfl;have hx10_4:w11.cell? ⟨go10,(x4_1:Int).toNat * 7+4,none⟩=some (.int .i64 ((rd_T44 x3_1 x4_1).f2.f2)):=hcc10 4 _ rfl;have hx10_5:w11.cell? ⟨go10,(x4_1:Int).toNat * 7+5,none⟩=some (.int .i64 ((rd_T44 x3_1 x4_1).f2.f3)):=hcc10 5 _ rfl;have hx10_6:w11.cell? ⟨go10,(x4_1:Int).toNat * 7+6,none⟩=some (.string ((rd_T44 x3_1 x4_1).f2.f4)):=hcc10 6 _ rfl;have hf10_0:w11.frozen? ⟨go10,(x4_1:Int).toNat * 7,none⟩=false:=hfr10 0;have hf10_1:w11.frozen? ⟨go10,(x4_1:Int).toNat * 7+1,none⟩=false:=hfr10 1;have hf10_2:w11.frozen? ⟨go10,(x4_1:Int).toNat * 7+2,none⟩=false:=hfr10 2;have hf10_3:w11.frozen? ⟨go10,(x4_1:Int).toNat * 7+3,none⟩=false:=hfr10 3;have hf10_4:w11.frozen? ⟨go10,(x4_1:Int).toNat * 7+4,none⟩=false:=hfr10 4;have hf10_5:w11.frozen? ⟨go10,(x4_1:Int).toNat * 7+5,none⟩=false:=hfr10 5;have hf10_6:w11.frozen? ⟨go10,(x4_1:Int).toNat * 7+6,none⟩=false:=hfr10 6;clear hcl10 hcc10 hfr10 hM10;replace p10:=eq_true p10;replace q10:=eq_true q10;have HX12:=a_ (show Kd.R k44 44 w11 w.heap.size (fun _=>True) (.slice (some ⟨go10,0,none⟩) x3_1.length co10) x3_1 from (rp_ HO_3.out));obtain ⟨ce12,hcl12,hM12,hcc12,hfr12⟩:=Kd.R_elem HX12.out z44 (x4_1:Int) (od_) (by have h_:(x4_1:Int) < ((x3_1.length:Int):Int):=od_;first|exact h_|(have e_:=(Kd.R_reads' HO_3.out).1;omega)|simpa using h_);obtain rfl:=k44_openM hM12;have HP12:=Kd.R_seg HX12.out (x4_1:Int) (od_) (by have h_:(x4_1:Int) < ((x3_1.length:Int):Int):=od_;first|exact h_|(have e_:=(Kd.R_reads' HO_3.out).1;omega)|simpa using h_) (seg:=[.int .i64 t525,.int .i64 t526,.int .i64 t527,.int .i64 t528,.int .i64 t529,.int .i64 t530,.string t531]) (j:=0) hcl12 hcc12 (show 7≤7 from by decide) (x':=(⟨t525,t526,(⟨t527,t528,t529,t530,t531⟩:S42)⟩:S44)) (k44_mkM _ _ _ (⟨t525,t526,(⟨t527,t528,t529,t530,t531⟩:S42)⟩:S44) ) (fun _ hk=>hk);have hx12_0:=hcc12 0 _ rfl;(try simp only [show (k44).sz=7 from rfl,Nat.mul_one,Nat.add_zero] at hx12_0);have hf12_0:=hfr12 0;(try simp only [show (k44).sz=7 from rfl,Nat.mul_one,Nat.add_zero] at hf12_0);have hx12_1:=hcc12 1 _ rfl;(try simp only [show (k44).sz=7 from rfl,Nat.mul_one,Nat.add_zero] at hx12_1);have hf12_1:=hfr12 1;(try simp only [show (k44).sz=7 from rfl,Nat.mul_one,Nat.add_zero] at hf12_1);have hx12_2:=hcc12 2 _ rfl;(try simp only [show (k44).sz=7 from rfl,Nat.mul_one,Nat.add_zero] at hx12_2);have hf12_2:=hfr12 2;(try simp only [show (k44).sz=7 from rfl,Nat.mul_one,Nat.add_zero] at hf12_2);have hx12_3:=hcc12 3 _ rfl;(try simp only [show (k44).sz=7 from rfl,Nat.mul_one,Nat.add_zero] at hx12_3);have hf12_3:=hfr12 3;(try simp only [show (k44).sz=7 from rfl,Nat.mul_one,Nat.add_zero] at hf12_3);have hx12_4:=hcc12 4 _ rfl;(try simp only [show (k44).sz=7 from rfl,Nat.mul_one,Nat.add_zero] at hx12_4);have hf12_4:=hfr12 4;(try simp only [show (k44).sz=7 from rfl,Nat.mul_one,Nat.add_zero] at hf12_4);have hx12_5:=hcc12 5 _ rfl;(try simp only [show (k44).sz=7 from rfl,Nat.mul_one,Nat.add_zero] at hx12_5);have hf12_5:=hfr12 5;(try simp only [show (k44).sz=7 from rfl,Nat.mul_one,Nat.add_zero] at hf12_5);have hx12_6:=hcc12 6 _ rfl;(try simp only [show (k44).sz=7 from rfl,Nat.mul_one,Nat.add_zero] at hx12_6);have hf12_6:=hfr12 6;(try simp only [show (k44).sz=7 from rfl,Nat.mul_one,Nat.add_zero] at hf12_6);clear hcl12 hcc12 hfr12 hM12)|((with_reducible refine gate_store (t:=44) (p:=21) rfl ?_);refine store_event (t:=44) (p:=21) (v:=?vo_w13) (w1:=(((((((w11.setCell ⟨go10,(x4_1:Int).toNat * 7,none⟩ (.int .i64 t525)).setCell ⟨go10,(x4_1:Int).toNat * 7+1,none⟩ (.int .i64 t526)).setCell ⟨go10,(x4_1:Int).toNat * 7+2,none⟩ (.int .i64 t527)).setCell ⟨go10,(x4_1:Int).toNat * 7+3,none⟩ (.int .i64 t528)).setCell ⟨go10,(x4_1:Int).toNat * 7+4,none⟩ (.int .i64 t529)).setCell ⟨go10,(x4_1:Int).toNat * 7+5,none⟩ (.int .i64 t530)).setCell ⟨go10,(x4_1:Int).toNat * 7+6,none⟩ (.string t531))) ?hg ?ho ?hn ?hr ?_;(case ho=>rfl);(case hg=>rfl);(case hn=>rfl);(case hr=>first|(go_simp;done)|(go_simp;rfl));intro w13 hw;have hg:w11.grownBy w13 (some go10):=(by rw [hw];exact HP12.2);have hp_:Kd.R k44 44 w13 w.heap.size (fun _=>True) (.slice (some ⟨go10,0,none⟩) x3_1.length co10) y532:=(by rw [hw,Ny532.out];exact HP12.1);clear HP12;have n0_:=a_ (hp_);have n1_:=a_ ((by rw [hw];exact wS_ (wS_ (wS_ (wS_ (wS_ (wS_ (wS_ (HB.out) GB10.out) GB10.out) GB10.out) GB10.out) GB10.out) GB10.out) GB10.out:Below w.heap.size w w13));clear HO_3;clear HB;have HO_3:=n0_;have HB:=n1_;clear n0_ n1_;clear hg hw hp_))
        go_roundg k1
        case measure=>have:=HK1.out;omega
        case rel=>exact ⟨(y532),(wrap64 (x4_1+1)),(si_),H',⟨by have:=HK1.out;omega⟩,⟨by (with_reducible repeat (first|apply Kd.R_alloc|apply Kd.R_drewN|apply Kd.R_drew));exact HO_3.out⟩,⟨bel_⟩⟩
       ·rw [if_neg c9] at H
        exact absurd H (by simp)
      ·rw [if_neg c7] at H
       exact absurd H (by simp)
     ·rw [if_neg c6] at H
      have c6b0:decide (x4_1 < (l0.length:Int))=false:=df_ c6
      clear c6
      obtain rfl:=sj_ H
      go_wp2
      go_ret
      exact ⟨_,fi_,by (with_reducible repeat (first|apply Kd.R_alloc|apply Kd.R_drewN|apply Kd.R_drew));exact HO_3.out,bel_⟩
  ·rw [if_neg c3] at H
   exact absurd H (by simp)
 ·rw [if_neg c2] at H
  exact absurd H (by simp)

def laws_toServer.f (k:Nat) (l0_0:List (S36)) (a0_1:Int) (a0_2:Bool):Option ((List (S44))×Int×Bool):=(laws_toEntryS.f k l0_0).bind fun t536=>(some (t536,a0_1,a0_2))
theorem laws_toServer.mono:∀ a0 a1 a2 k,LeO (laws_toServer.f k a0 a1 a2) (laws_toServer.f (k+1) a0 a1 a2):=by
 intro a0 a1 a2 k
 unfold laws_toServer.f
 repeat' first
   | (with_reducible exact laws_toEntryS.mono _ _)
   | (with_reducible exact LeO.refl _)
   | (with_reducible exact LeO.none _)
   | (with_reducible refine LeO.ite ?_ ?_)
   | (with_reducible refine LeO.bind ?_ (fun _=>?_))
   | exact laws_toEntryS.mono _ _
   | exact LeO.none _
   | refine LeO.ite ?_ ?_
   | refine LeO.bind ?_ (fun _=>?_)
theorem laws_toServer.calls (k:Nat) (A0_0:Option Addr) (c0_0:Nat) (l0_0:List (S36)) (a0_1:Int) (a0_2:Bool) (r1:List (S44)) (r2:Int) (r3:Bool) (w:World) (hr0_0:Kd.C k36 w A0_0 l0_0.length l0_0) (hc0_0:l0_0.length≤c0_0) (h:laws_toServer.f k l0_0 a0_1 a0_2=some (r1,r2,r3)) :
  Calls Tryd.prog 22 #[.agg #[.slice A0_0 l0_0.length c0_0,.int .i64 a0_1,.bool a0_2]] w fun e w'=>∃ v0_:Value,e=.returned (.agg #[v0_,.int .i64 r2,.bool r3])∧Kd.R k44 44 w' w.heap.size (fun _=>True) v0_ r1∧Below w.heap.size w w':=by
 have hu32:=Tryd.underlying32
 have hu25:=Tryd.underlying25
 have HR0_0:=a_ hr0_0
 have HC0_0:=a_ hc0_0
 clear hr0_0 hc0_0
 have HB:=a_ (Below.refl w.heap.size w)
 unfold laws_toServer.f at h
 have H:=h
 clear h
 replace H:=bs_ H
 obtain ⟨t536,A20,H⟩:=H
 try dsimp only at H
 have A2:=a_ A20
 clear A20
 simp only [Option.some.injEq,Prod.mk.injEq] at H
 obtain ⟨rfl,rfl,rfl⟩:=H
 go_enter Tryd.func22,Tryd.ntmps22
 go_wp2_with (first|((with_reducible refine gD_ (N:=1) rfl ?_);refine bx_ 1 (#[.slice A0_0 l0_0.length c0_0,.int .i64 a0_1,.bool a0_2]) 32 ?_;intro gb533 hg w3 hbox hb;have n0_:=a_ (bS_ (bel_) hb);have n1_:=a_ (hbox);have n2_:=a_ ((by rw [hg];exact (below_size (bel_)):w.heap.size≤gb533));have n3_:=a_ ((by rw [hg];exact (below_size (bel_)):w.heap.size≤gb533));clear HB;have HB:=n0_;have BK533:=n1_;have GW533:=n2_;have GE533:=n3_;clear n0_ n1_ n2_ n3_;clear hb hbox hg)|((with_reducible refine gD_ (N:=2) rfl ?_);refine bx_ 2 (#[.slice none 0 0,.int .i64 0,.bool false]) 25 ?_;intro gb534 hg w4 hbox hb;have n0_:=a_ (bb_ BK533.out hb);have n1_:=a_ (bS_ (bel_) hb);have n2_:=a_ (hbox);have n3_:=a_ ((by rw [hg];exact (below_size (bel_)):w.heap.size≤gb534));have n4_:=a_ ((by rw [hg];exact (below_size (bel_)):w.heap.size≤gb534));have n5_:=a_ ((by rw [hg];exact Nat.ne_of_lt (blk_lt (g:=gb533) (o:=.cells #[.slice A0_0 l0_0.length c0_0,.int .i64 a0_1,.bool a0_2] 32 (0,0)) (bp_ BK533.out)):gb533≠gb534));have n6_:=a_ ((by rw [hg];exact Nat.ne_of_gt (blk_lt (g:=gb533) (o:=.cells #[.slice A0_0 l0_0.length c0_0,.int .i64 a0_1,.bool a0_2] 32 (0,0)) (bp_ BK533.out)):gb534≠gb533));clear BK533;clear HB;have BK533:=n0_;have HB:=n1_;have BK534:=n2_;have GW534:=n3_;have GE534:=n4_;have NB533_534:=n5_;have NB534_533:=n6_;clear n0_ n1_ n2_ n3_ n4_ n5_ n6_;clear hb hbox hg)|((with_reducible refine gD_ (N:=3) rfl ?_);refine bx_ 3 (#[.slice none 0 0,.int .i64 0,.bool false]) 25 ?_;intro gb535 hg w5 hbox hb;have n0_:=a_ (bb_ BK533.out hb);have n1_:=a_ (bb_ BK534.out hb);have n2_:=a_ (bS_ (bel_) hb);have n3_:=a_ (hbox);have n4_:=a_ ((by rw [hg];exact (below_size (bel_)):w.heap.size≤gb535));have n5_:=a_ ((by rw [hg];exact (below_size (bel_)):w.heap.size≤gb535));have n6_:=a_ ((by rw [hg];exact Nat.ne_of_lt (blk_lt (g:=gb533) (o:=.cells #[.slice A0_0 l0_0.length c0_0,.int .i64 a0_1,.bool a0_2] 32 (0,0)) (bp_ BK533.out)):gb533≠gb535));have n7_:=a_ ((by rw [hg];exact Nat.ne_of_gt (blk_lt (g:=gb533) (o:=.cells #[.slice A0_0 l0_0.length c0_0,.int .i64 a0_1,.bool a0_2] 32 (0,0)) (bp_ BK533.out)):gb535≠gb533));have n8_:=a_ ((by rw [hg];exact Nat.ne_of_lt (blk_lt (g:=gb534) (o:=.cells #[.slice none 0 0,.int .i64 0,.bool false] 25 (0,0)) (bp_ BK534.out)):gb534≠gb535));have n9_:=a_ ((by rw [hg];exact Nat.ne_of_gt (blk_lt (g:=gb534) (o:=.cells #[.slice none 0 0,.int .i64 0,.bool false] 25 (0,0)) (bp_ BK534.out)):gb535≠gb534));clear BK533;clear BK534;clear HB;have BK533:=n0_;have BK534:=n1_;have HB:=n2_;have BK535:=n3_;have GW535:=n4_;have GE535:=n5_;have NB533_535:=n6_;have NB535_533:=n7_;have NB534_535:=n8_;have NB535_534:=n9_;clear n0_ n1_ n2_ n3_ n4_ n5_ n6_ n7_ n8_ n9_;clear hb hbox hg;have hnb6:=NB533_534.out;have hnc6:=NB534_533.out;have hnb7:=NB533_535.out;have hnc7:=NB535_533.out;have Z8_0:=cz_ BK533.out 0 (.slice A0_0 l0_0.length c0_0);have Z8_1:=cz_ BK533.out 1 (.int .i64 a0_1);have Z8_2:=cz_ BK533.out 2 (.bool a0_2);have Y8_0:=bF_ BK533.out 0;have Y8_1:=bF_ BK533.out 1;have Y8_2:=bF_ BK533.out 2)|((with_reducible refine gC_ (f:=50) rfl ?_);refine gl_ 6 Tryd.func50 #[.slice A0_0 l0_0.length c0_0] ?_;(with_reducible refine (laws_toEntryS.calls k _ _ l0_0 t536 _ ?side1 ?side2 A2.out).mono ?_);(case side1=>exact cp_ HR0_0.out);(case side2=>exact HC0_0.out);rintro e w9 ⟨v537,rfl,ho0,hb⟩;refine ⟨_,rfl,?_⟩;have HO538:=a_ (Kd.R_lower ho0 (below_size (bel_)));replace HB:=a_ (bS_ (bel_) hb);replace BK533:=a_ (bb_ BK533.out hb);replace BK534:=a_ (bb_ BK534.out hb);replace BK535:=a_ (bb_ BK535.out hb);(try clear hb ho0);obtain ⟨Ao10,co10,eo10⟩:=Kd.R_slice HO538.out;subst eo10;have hnb11:=NB535_534.out;have hnc11:=NB534_535.out;have Z12_0:=cz_ BK535.out 0 (.slice none 0 0);have Z12_1:=cz_ BK535.out 1 (.int .i64 0);have Z12_2:=cz_ BK535.out 2 (.bool false);have Y12_0:=bF_ BK535.out 0;have Y12_1:=bF_ BK535.out 1;have Y12_2:=bF_ BK535.out 2;have Z13_0:=cz_ BK533.out 0 (.slice A0_0 l0_0.length c0_0);have Z13_1:=cz_ BK533.out 1 (.int .i64 a0_1);have Z13_2:=cz_ BK533.out 2 (.bool a0_2);have Y13_0:=bF_ BK533.out 0;have Y13_1:=bF_ BK533.out 1;have Y13_2:=bF_ BK533.out 2;have Z14_0:=cz_ BK534.out 0 (.slice none 0 0);have Z14_1:=cz_ BK534.out 1 (.int .i64 0);have Z14_2:=cz_ BK534.out 2 (.bool false);have Y14_0:=bF_ BK534.out 0;have Y14_1:=bF_ BK534.out 1;have Y14_2:=bF_ BK534.out 2))
 refine bodyPost_ret (results_cell_row rfl _ _ gb534 25 #[.slice Ao10 t536.length co10,.int .i64 a0_1,.bool a0_2] (0,0) _ rfl (by (with_reducible repeat (first|refine bN_ ?_ _|refine bD_ ?_|refine bA_ ?_ _));refine blk_put (cs:=#[.slice Ao10 t536.length co10,.int .i64 a0_1,.bool false]) ?_ 2 _ rfl;(with_reducible repeat (first|refine bN_ ?_ _|refine bD_ ?_|refine bA_ ?_ _));refine blk_put (cs:=#[.slice Ao10 t536.length co10,.int .i64 0,.bool false]) ?_ 1 _ rfl;(with_reducible repeat (first|refine bN_ ?_ _|refine bD_ ?_|refine bA_ ?_ _));refine blk_put (cs:=#[.slice none 0 0,.int .i64 0,.bool false]) ?_ 0 _ rfl;(with_reducible repeat (first|refine bN_ ?_ _|refine bD_ ?_|refine bA_ ?_ _));refine blk_far ?_ NB534_535.out _;(with_reducible repeat (first|refine bN_ ?_ _|refine bD_ ?_|refine bA_ ?_ _));refine blk_far ?_ NB534_535.out _;(with_reducible repeat (first|refine bN_ ?_ _|refine bD_ ?_|refine bA_ ?_ _));refine blk_far ?_ NB534_535.out _;(with_reducible repeat (first|refine bN_ ?_ _|refine bD_ ?_|refine bA_ ?_ _));exact BK534.out) Tryd.underlying25 rfl (by kernel_rfl)) rfl ?_
 exact ⟨_,fi_,by (with_reducible repeat (first|apply Kd.R_alloc|apply Kd.R_drewN|apply Kd.R_drew));exact Kd.R_mono (Kd.R_far (p:=⟨gb534,2,none⟩) (Kd.R_far (p:=⟨gb534,1,none⟩) (Kd.R_far (p:=⟨gb534,0,none⟩) (Kd.R_far (p:=⟨gb535,2,none⟩) (Kd.R_far (p:=⟨gb535,1,none⟩) (Kd.R_far (p:=⟨gb535,0,none⟩) (Kd.R_types (Kd.R_types HO538.out BK535.out (by decide)) BK534.out (by decide)) (fun _ hk=>hk.1.2) (.slice Ao10 t536.length co10)) (fun _ hk=>hk.1.2) (.int .i64 a0_1)) (fun _ hk=>hk.1.2) (.bool a0_2)) (fun _ hk=>hk.2) (.slice Ao10 t536.length co10)) (fun _ hk=>hk.2) (.int .i64 a0_1)) (fun _ hk=>hk.2) (.bool a0_2)) (fun _ hk=>trivial),bel_⟩

def laws_eqOp.f (a0_0:Int) (a0_1:Int) (a0_2:Int) (a0_3:Int) (a0_4:ByteArray) (a1_0:Int) (a1_1:Int) (a1_2:Int) (a1_3:Int) (a1_4:ByteArray):Option (Bool):=if a0_0=a1_0 then (if a0_1=a1_1 then (if a0_2=a1_2 then (if a0_3=a1_3 then (if a0_4.toList=a1_4.toList then (some true) else (some false)) else (some false)) else (some false)) else (some false)) else (some false)
theorem laws_eqOp.calls (a0_0:Int) (a0_1:Int) (a0_2:Int) (a0_3:Int) (a0_4:ByteArray) (a1_0:Int) (a1_1:Int) (a1_2:Int) (a1_3:Int) (a1_4:ByteArray) (r:Bool) (w:World) (h:laws_eqOp.f a0_0 a0_1 a0_2 a0_3 a0_4 a1_0 a1_1 a1_2 a1_3 a1_4=some r) :
  Calls Tryd.prog 137 #[.agg #[.int .i64 a0_0,.int .i64 a0_1,.int .i64 a0_2,.int .i64 a0_3,.string a0_4],.agg #[.int .i64 a1_0,.int .i64 a1_1,.int .i64 a1_2,.int .i64 a1_3,.string a1_4]] w fun e w'=>e=.returned (.bool r)∧Below w.heap.size w w':=by
 have hu42:=Tryd.underlying42
 have HB:=a_ (Below.refl w.heap.size w)
 unfold laws_eqOp.f at h
 have H:=h
 clear h
 by_cases c3:a0_0=a1_0
 ·rw [if_pos c3] at H
  have c3b0:(a0_0==a1_0)=true:=beq_iff_eq.mpr c3
  have c3b1:(a0_0 != a1_0)=false:=be_ c3
  clear c3
  by_cases c4:a0_1=a1_1
  ·rw [if_pos c4] at H
   have c4b0:(a0_1==a1_1)=true:=beq_iff_eq.mpr c4
   have c4b1:(a0_1 != a1_1)=false:=be_ c4
   clear c4
   by_cases c5:a0_2=a1_2
   ·rw [if_pos c5] at H
    have c5b0:(a0_2==a1_2)=true:=beq_iff_eq.mpr c5
    have c5b1:(a0_2 != a1_2)=false:=be_ c5
    clear c5
    by_cases c6:a0_3=a1_3
    ·rw [if_pos c6] at H
     have c6b0:(a0_3==a1_3)=true:=beq_iff_eq.mpr c6
     have c6b1:(a0_3 != a1_3)=false:=be_ c6
     clear c6
     by_cases c7:a0_4.toList=a1_4.toList
     ·rw [if_pos c7] at H
      have c7b0:(a0_4.toList==a1_4.toList)=true:=beq_iff_eq.mpr c7
      have c7b1:(a0_4.toList != a1_4.toList)=false:=be_ c7
      clear c7
      obtain rfl:=sj_ H
      go_enter Tryd.func137,Tryd.ntmps137
      go_wp2_with (first|((with_reducible refine gD_ (N:=2) rfl ?_);refine bx_ 2 (#[.int .i64 a0_0,.int .i64 a0_1,.int .i64 a0_2,.int .i64 a0_3,.string a0_4]) 42 ?_;intro gb552 hg w8 hbox hb;have n0_:=a_ (bS_ (bel_) hb);have n1_:=a_ (hbox);have n2_:=a_ ((by rw [hg];exact (below_size (bel_)):w.heap.size≤gb552));have n3_:=a_ ((by rw [hg];exact (below_size (bel_)):w.heap.size≤gb552));clear HB;have HB:=n0_;have BK552:=n1_;have GW552:=n2_;have GE552:=n3_;clear n0_ n1_ n2_ n3_;clear hb hbox hg)|((with_reducible refine gD_ (N:=3) rfl ?_);refine bx_ 3 (#[.int .i64 a1_0,.int .i64 a1_1,.int .i64 a1_2,.int .i64 a1_3,.string a1_4]) 42 ?_;intro gb553 hg w9 hbox hb;have n0_:=a_ (bb_ BK552.out hb);have n1_:=a_ (bS_ (bel_) hb);have n2_:=a_ (hbox);have n3_:=a_ ((by rw [hg];exact (below_size (bel_)):w.heap.size≤gb553));have n4_:=a_ ((by rw [hg];exact (below_size (bel_)):w.heap.size≤gb553));have n5_:=a_ ((by rw [hg];exact Nat.ne_of_lt (blk_lt (g:=gb552) (o:=.cells #[.int .i64 a0_0,.int .i64 a0_1,.int .i64 a0_2,.int .i64 a0_3,.string a0_4] 42 (0,0)) (bp_ BK552.out)):gb552≠gb553));have n6_:=a_ ((by rw [hg];exact Nat.ne_of_gt (blk_lt (g:=gb552) (o:=.cells #[.int .i64 a0_0,.int .i64 a0_1,.int .i64 a0_2,.int .i64 a0_3,.string a0_4] 42 (0,0)) (bp_ BK552.out)):gb553≠gb552));clear BK552;clear HB;have BK552:=n0_;have HB:=n1_;have BK553:=n2_;have GW553:=n3_;have GE553:=n4_;have NB552_553:=n5_;have NB553_552:=n6_;clear n0_ n1_ n2_ n3_ n4_ n5_ n6_;clear hb hbox hg;have hnb10:=NB552_553.out;have hnc10:=NB553_552.out;have Z11_0:=cz_ BK552.out 0 (.int .i64 a0_0);have Z11_1:=cz_ BK552.out 1 (.int .i64 a0_1);have Z11_2:=cz_ BK552.out 2 (.int .i64 a0_2);have Z11_3:=cz_ BK552.out 3 (.int .i64 a0_3);have Z11_4:=cz_ BK552.out 4 (.string a0_4);have Y11_0:=bF_ BK552.out 0;have Y11_1:=bF_ BK552.out 1;have Y11_2:=bF_ BK552.out 2;have Y11_3:=bF_ BK552.out 3;have Y11_4:=bF_ BK552.out 4;have Z12_0:=cz_ BK553.out 0 (.int .i64 a1_0);have Z12_1:=cz_ BK553.out 1 (.int .i64 a1_1);have Z12_2:=cz_ BK553.out 2 (.int .i64 a1_2);have Z12_3:=cz_ BK553.out 3 (.int .i64 a1_3);have Z12_4:=cz_ BK553.out 4 (.string a1_4);have Y12_0:=bF_ BK553.out 0;have Y12_1:=bF_ BK553.out 1;have Y12_2:=bF_ BK553.out 2;have Y12_3:=bF_ BK553.out 3;have Y12_4:=bF_ BK553.out 4))
      go_ret
      exact ⟨fi_,bel_⟩
     ·rw [if_neg c7] at H
      have c7b0:(a0_4.toList==a1_4.toList)=false:=bn_ c7
      have c7b1:(a0_4.toList != a1_4.toList)=true:=bne_iff_ne.mpr c7
      obtain rfl:=sj_ H
      go_enter Tryd.func137,Tryd.ntmps137
      go_wp2_with (first|((with_reducible refine gD_ (N:=2) rfl ?_);refine bx_ 2 (#[.int .i64 a0_0,.int .i64 a0_1,.int .i64 a0_2,.int .i64 a0_3,.string a0_4]) 42 ?_;intro gb552 hg w13 hbox hb;have n0_:=a_ (bS_ (bel_) hb);have n1_:=a_ (hbox);have n2_:=a_ ((by rw [hg];exact (below_size (bel_)):w.heap.size≤gb552));have n3_:=a_ ((by rw [hg];exact (below_size (bel_)):w.heap.size≤gb552));clear HB;have HB:=n0_;have BK552:=n1_;have GW552:=n2_;have GE552:=n3_;clear n0_ n1_ n2_ n3_;clear hb hbox hg)|((with_reducible refine gD_ (N:=3) rfl ?_);refine bx_ 3 (#[.int .i64 a1_0,.int .i64 a1_1,.int .i64 a1_2,.int .i64 a1_3,.string a1_4]) 42 ?_;intro gb553 hg w14 hbox hb;have n0_:=a_ (bb_ BK552.out hb);have n1_:=a_ (bS_ (bel_) hb);have n2_:=a_ (hbox);have n3_:=a_ ((by rw [hg];exact (below_size (bel_)):w.heap.size≤gb553));have n4_:=a_ ((by rw [hg];exact (below_size (bel_)):w.heap.size≤gb553));have n5_:=a_ ((by rw [hg];exact Nat.ne_of_lt (blk_lt (g:=gb552) (o:=.cells #[.int .i64 a0_0,.int .i64 a0_1,.int .i64 a0_2,.int .i64 a0_3,.string a0_4] 42 (0,0)) (bp_ BK552.out)):gb552≠gb553));have n6_:=a_ ((by rw [hg];exact Nat.ne_of_gt (blk_lt (g:=gb552) (o:=.cells #[.int .i64 a0_0,.int .i64 a0_1,.int .i64 a0_2,.int .i64 a0_3,.string a0_4] 42 (0,0)) (bp_ BK552.out)):gb553≠gb552));clear BK552;clear HB;have BK552:=n0_;have HB:=n1_;have BK553:=n2_;have GW553:=n3_;have GE553:=n4_;have NB552_553:=n5_;have NB553_552:=n6_;clear n0_ n1_ n2_ n3_ n4_ n5_ n6_;clear hb hbox hg;have hnb15:=NB552_553.out;have hnc15:=NB553_552.out;have Z16_0:=cz_ BK552.out 0 (.int .i64 a0_0);have Z16_1:=cz_ BK552.out 1 (.int .i64 a0_1);have Z16_2:=cz_ BK552.out 2 (.int .i64 a0_2);have Z16_3:=cz_ BK552.out 3 (.int .i64 a0_3);have Z16_4:=cz_ BK552.out 4 (.string a0_4);have Y16_0:=bF_ BK552.out 0;have Y16_1:=bF_ BK552.out 1;have Y16_2:=bF_ BK552.out 2;have Y16_3:=bF_ BK552.out 3;have Y16_4:=bF_ BK552.out 4;have Z17_0:=cz_ BK553.out 0 (.int .i64 a1_0);have Z17_1:=cz_ BK553.out 1 (.int .i64 a1_1);have Z17_2:=cz_ BK553.out 2 (.int .i64 a1_2);have Z17_3:=cz_ BK553.out 3 (.int .i64 a1_3);have Z17_4:=cz_ BK553.out 4 (.string a1_4);have Y17_0:=bF_ BK553.out 0;have Y17_1:=bF_ BK553.out 1;have Y17_2:=bF_ BK553.out 2;have Y17_3:=bF_ BK553.out 3;have Y17_4:=bF_ BK553.out 4))
      go_ret
      exact ⟨fi_,bel_⟩
    ·rw [if_neg c6] at H
     have c6b0:(a0_3==a1_3)=false:=bn_ c6
     have c6b1:(a0_3 != a1_3)=true:=bne_iff_ne.mpr c6
     obtain rfl:=sj_ H
     go_enter Tryd.func137,Tryd.ntmps137
     go_wp2_with (first|((with_reducible refine gD_ (N:=2) rfl ?_);refine bx_ 2 (#[.int .i64 a0_0,.int .i64 a0_1,.int .i64 a0_2,.int .i64 a0_3,.string a0_4]) 42 ?_;intro gb552 hg w18 hbox hb;have n0_:=a_ (bS_ (bel_) hb);have n1_:=a_ (hbox);have n2_:=a_ ((by rw [hg];exact (below_size (bel_)):w.heap.size≤gb552));have n3_:=a_ ((by rw [hg];exact (below_size (bel_)):w.heap.size≤gb552));clear HB;have HB:=n0_;have BK552:=n1_;have GW552:=n2_;have GE552:=n3_;clear n0_ n1_ n2_ n3_;clear hb hbox hg)|((with_reducible refine gD_ (N:=3) rfl ?_);refine bx_ 3 (#[.int .i64 a1_0,.int .i64 a1_1,.int .i64 a1_2,.int .i64 a1_3,.string a1_4]) 42 ?_;intro gb553 hg w19 hbox hb;have n0_:=a_ (bb_ BK552.out hb);have n1_:=a_ (bS_ (bel_) hb);have n2_:=a_ (hbox);have n3_:=a_ ((by rw [hg];exact (below_size (bel_)):w.heap.size≤gb553));have n4_:=a_ ((by rw [hg];exact (below_size (bel_)):w.heap.size≤gb553));have n5_:=a_ ((by rw [hg];exact Nat.ne_of_lt (blk_lt (g:=gb552) (o:=.cells #[.int .i64 a0_0,.int .i64 a0_1,.int .i64 a0_2,.int .i64 a0_3,.string a0_4] 42 (0,0)) (bp_ BK552.out)):gb552≠gb553));have n6_:=a_ ((by rw [hg];exact Nat.ne_of_gt (blk_lt (g:=gb552) (o:=.cells #[.int .i64 a0_0,.int .i64 a0_1,.int .i64 a0_2,.int .i64 a0_3,.string a0_4] 42 (0,0)) (bp_ BK552.out)):gb553≠gb552));clear BK552;clear HB;have BK552:=n0_;have HB:=n1_;have BK553:=n2_;have GW553:=n3_;have GE553:=n4_;have NB552_553:=n5_;have NB553_552:=n6_;clear n0_ n1_ n2_ n3_ n4_ n5_ n6_;clear hb hbox hg;have hnb20:=NB552_553.out;have hnc20:=NB553_552.out;have Z21_0:=cz_ BK552.out 0 (.int .i64 a0_0);have Z21_1:=cz_ BK552.out 1 (.int .i64 a0_1);have Z21_2:=cz_ BK552.out 2 (.int .i64 a0_2);have Z21_3:=cz_ BK552.out 3 (.int .i64 a0_3);have Z21_4:=cz_ BK552.out 4 (.string a0_4);have Y21_0:=bF_ BK552.out 0;have Y21_1:=bF_ BK552.out 1;have Y21_2:=bF_ BK552.out 2;have Y21_3:=bF_ BK552.out 3;have Y21_4:=bF_ BK552.out 4;have Z22_0:=cz_ BK553.out 0 (.int .i64 a1_0);have Z22_1:=cz_ BK553.out 1 (.int .i64 a1_1);have Z22_2:=cz_ BK553.out 2 (.int .i64 a1_2);have Z22_3:=cz_ BK553.out 3 (.int .i64 a1_3);have Z22_4:=cz_ BK553.out 4 (.string a1_4);have Y22_0:=bF_ BK553.out 0;have Y22_1:=bF_ BK553.out 1;have Y22_2:=bF_ BK553.out 2;have Y22_3:=bF_ BK553.out 3;have Y22_4:=bF_ BK553.out 4))
     go_ret
     exact ⟨fi_,bel_⟩
   ·rw [if_neg c5] at H
    have c5b0:(a0_2==a1_2)=false:=bn_ c5
    have c5b1:(a0_2 != a1_2)=true:=bne_iff_ne.mpr c5
    obtain rfl:=sj_ H
    go_enter Tryd.func137,Tryd.ntmps137
    go_wp2_with (first|((with_reducible refine gD_ (N:=2) rfl ?_);refine bx_ 2 (#[.int .i64 a0_0,.int .i64 a0_1,.int .i64 a0_2,.int .i64 a0_3,.string a0_4]) 42 ?_;intro gb552 hg w23 hbox hb;have n0_:=a_ (bS_ (bel_) hb);have n1_:=a_ (hbox);have n2_:=a_ ((by rw [hg];exact (below_size (bel_)):w.heap.size≤gb552));have n3_:=a_ ((by rw [hg];exact (below_size (bel_)):w.heap.size≤gb552));clear HB;have HB:=n0_;have BK552:=n1_;have GW552:=n2_;have GE552:=n3_;clear n0_ n1_ n2_ n3_;clear hb hbox hg)|((with_reducible refine gD_ (N:=3) rfl ?_);refine bx_ 3 (#[.int .i64 a1_0,.int .i64 a1_1,.int .i64 a1_2,.int .i64 a1_3,.string a1_4]) 42 ?_;intro gb553 hg w24 hbox hb;have n0_:=a_ (bb_ BK552.out hb);have n1_:=a_ (bS_ (bel_) hb);have n2_:=a_ (hbox);have n3_:=a_ ((by rw [hg];exact (below_size (bel_)):w.heap.size≤gb553));have n4_:=a_ ((by rw [hg];exact (below_size (bel_)):w.heap.size≤gb553));have n5_:=a_ ((by rw [hg];exact Nat.ne_of_lt (blk_lt (g:=gb552) (o:=.cells #[.int .i64 a0_0,.int .i64 a0_1,.int .i64 a0_2,.int .i64 a0_3,.string a0_4] 42 (0,0)) (bp_ BK552.out)):gb552≠gb553));have n6_:=a_ ((by rw [hg];exact Nat.ne_of_gt (blk_lt (g:=gb552) (o:=.cells #[.int .i64 a0_0,.int .i64 a0_1,.int .i64 a0_2,.int .i64 a0_3,.string a0_4] 42 (0,0)) (bp_ BK552.out)):gb553≠gb552));clear BK552;clear HB;have BK552:=n0_;have HB:=n1_;have BK553:=n2_;have GW553:=n3_;have GE553:=n4_;have NB552_553:=n5_;have NB553_552:=n6_;clear n0_ n1_ n2_ n3_ n4_ n5_ n6_;clear hb hbox hg;have hnb25:=NB552_553.out;have hnc25:=NB553_552.out;have Z26_0:=cz_ BK552.out 0 (.int .i64 a0_0);have Z26_1:=cz_ BK552.out 1 (.int .i64 a0_1);have Z26_2:=cz_ BK552.out 2 (.int .i64 a0_2);have Z26_3:=cz_ BK552.out 3 (.int .i64 a0_3);have Z26_4:=cz_ BK552.out 4 (.string a0_4);have Y26_0:=bF_ BK552.out 0;have Y26_1:=bF_ BK552.out 1;have Y26_2:=bF_ BK552.out 2;have Y26_3:=bF_ BK552.out 3;have Y26_4:=bF_ BK552.out 4;have Z27_0:=cz_ BK553.out 0 (.int .i64 a1_0);have Z27_1:=cz_ BK553.out 1 (.int .i64 a1_1);have Z27_2:=cz_ BK553.out 2 (.int .i64 a1_2);have Z27_3:=cz_ BK553.out 3 (.int .i64 a1_3);have Z27_4:=cz_ BK553.out 4 (.string a1_4);have Y27_0:=bF_ BK553.out 0;have Y27_1:=bF_ BK553.out 1;have Y27_2:=bF_ BK553.out 2;have Y27_3:=bF_ BK553.out 3;have Y27_4:=bF_ BK553.out 4))
    go_ret
    exact ⟨fi_,bel_⟩
  ·rw [if_neg c4] at H
   have c4b0:(a0_1==a1_1)=false:=bn_ c4
   have c4b1:(a0_1 != a1_1)=true:=bne_iff_ne.mpr c4
   obtain rfl:=sj_ H
   go_enter Tryd.func137,Tryd.ntmps137
   go_wp2_with (first|((with_reducible refine gD_ (N:=2) rfl ?_);refine bx_ 2 (#[.int .i64 a0_0,.int .i64 a0_1,.int .i64 a0_2,.int .i64 a0_3,.string a0_4]) 42 ?_;intro gb552 hg w28 hbox hb;have n0_:=a_ (bS_ (bel_) hb);have n1_:=a_ (hbox);have n2_:=a_ ((by rw [hg];exact (below_size (bel_)):w.heap.size≤gb552));have n3_:=a_ ((by rw [hg];exact (below_size (bel_)):w.heap.size≤gb552));clear HB;have HB:=n0_;have BK552:=n1_;have GW552:=n2_;have GE552:=n3_;clear n0_ n1_ n2_ n3_;clear hb hbox hg)|((with_reducible refine gD_ (N:=3) rfl ?_);refine bx_ 3 (#[.int .i64 a1_0,.int .i64 a1_1,.int .i64 a1_2,.int .i64 a1_3,.string a1_4]) 42 ?_;intro gb553 hg w29 hbox hb;have n0_:=a_ (bb_ BK552.out hb);have n1_:=a_ (bS_ (bel_) hb);have n2_:=a_ (hbox);have n3_:=a_ ((by rw [hg];exact (below_size (bel_)):w.heap.size≤gb553));have n4_:=a_ ((by rw [hg];exact (below_size (bel_)):w.heap.size≤gb553));have n5_:=a_ ((by rw [hg];exact Nat.ne_of_lt (blk_lt (g:=gb552) (o:=.cells #[.int .i64 a0_0,.int .i64 a0_1,.int .i64 a0_2,.int .i64 a0_3,.string a0_4] 42 (0,0)) (bp_ BK552.out)):gb552≠gb553));have n6_:=a_ ((by rw [hg];exact Nat.ne_of_gt (blk_lt (g:=gb552) (o:=.cells #[.int .i64 a0_0,.int .i64 a0_1,.int .i64 a0_2,.int .i64 a0_3,.string a0_4] 42 (0,0)) (bp_ BK552.out)):gb553≠gb552));clear BK552;clear HB;have BK552:=n0_;have HB:=n1_;have BK553:=n2_;have GW553:=n3_;have GE553:=n4_;have NB552_553:=n5_;have NB553_552:=n6_;clear n0_ n1_ n2_ n3_ n4_ n5_ n6_;clear hb hbox hg;have hnb30:=NB552_553.out;have hnc30:=NB553_552.out;have Z31_0:=cz_ BK552.out 0 (.int .i64 a0_0);have Z31_1:=cz_ BK552.out 1 (.int .i64 a0_1);have Z31_2:=cz_ BK552.out 2 (.int .i64 a0_2);have Z31_3:=cz_ BK552.out 3 (.int .i64 a0_3);have Z31_4:=cz_ BK552.out 4 (.string a0_4);have Y31_0:=bF_ BK552.out 0;have Y31_1:=bF_ BK552.out 1;have Y31_2:=bF_ BK552.out 2;have Y31_3:=bF_ BK552.out 3;have Y31_4:=bF_ BK552.out 4;have Z32_0:=cz_ BK553.out 0 (.int .i64 a1_0);have Z32_1:=cz_ BK553.out 1 (.int .i64 a1_1);have Z32_2:=cz_ BK553.out 2 (.int .i64 a1_2);have Z32_3:=cz_ BK553.out 3 (.int .i64 a1_3);have Z32_4:=cz_ BK553.out 4 (.string a1_4);have Y32_0:=bF_ BK553.out 0;have Y32_1:=bF_ BK553.out 1;have Y32_2:=bF_ BK553.out 2;have Y32_3:=bF_ BK553.out 3;have Y32_4:=bF_ BK553.out 4))
   go_ret
   exact ⟨fi_,bel_⟩
 ·rw [if_neg c3] at H
  have c3b0:(a0_0==a1_0)=false:=bn_ c3
  have c3b1:(a0_0 != a1_0)=true:=bne_iff_ne.mpr c3
  obtain rfl:=sj_ H
  go_enter Tryd.func137,Tryd.ntmps137
  go_wp2_with (first|((with_reducible refine gD_ (N:=2) rfl ?_);refine bx_ 2 (#[.int .i64 a0_0,.int .i64 a0_1,.int .i64 a0_2,.int .i64 a0_3,.string a0_4]) 42 ?_;intro gb552 hg w33 hbox hb;have n0_:=a_ (bS_ (bel_) hb);have n1_:=a_ (hbox);have n2_:=a_ ((by rw [hg];exact (below_size (bel_)):w.heap.size≤gb552));have n3_:=a_ ((by rw [hg];exact (below_size (bel_)):w.heap.size≤gb552));clear HB;have HB:=n0_;have BK552:=n1_;have GW552:=n2_;have GE552:=n3_;clear n0_ n1_ n2_ n3_;clear hb hbox hg)|((with_reducible refine gD_ (N:=3) rfl ?_);refine bx_ 3 (#[.int .i64 a1_0,.int .i64 a1_1,.int .i64 a1_2,.int .i64 a1_3,.string a1_4]) 42 ?_;intro gb553 hg w34 hbox hb;have n0_:=a_ (bb_ BK552.out hb);have n1_:=a_ (bS_ (bel_) hb);have n2_:=a_ (hbox);have n3_:=a_ ((by rw [hg];exact (below_size (bel_)):w.heap.size≤gb553));have n4_:=a_ ((by rw [hg];exact (below_size (bel_)):w.heap.size≤gb553));have n5_:=a_ ((by rw [hg];exact Nat.ne_of_lt (blk_lt (g:=gb552) (o:=.cells #[.int .i64 a0_0,.int .i64 a0_1,.int .i64 a0_2,.int .i64 a0_3,.string a0_4] 42 (0,0)) (bp_ BK552.out)):gb552≠gb553));have n6_:=a_ ((by rw [hg];exact Nat.ne_of_gt (blk_lt (g:=gb552) (o:=.cells #[.int .i64 a0_0,.int .i64 a0_1,.int .i64 a0_2,.int .i64 a0_3,.string a0_4] 42 (0,0)) (bp_ BK552.out)):gb553≠gb552));clear BK552;clear HB;have BK552:=n0_;have HB:=n1_;have BK553:=n2_;have GW553:=n3_;have GE553:=n4_;have NB552_553:=n5_;have NB553_552:=n6_;clear n0_ n1_ n2_ n3_ n4_ n5_ n6_;clear hb hbox hg;have hnb35:=NB552_553.out;have hnc35:=NB553_552.out;have Z36_0:=cz_ BK552.out 0 (.int .i64 a0_0);have Z36_1:=cz_ BK552.out 1 (.int .i64 a0_1);have Z36_2:=cz_ BK552.out 2 (.int .i64 a0_2);have Z36_3:=cz_ BK552.out 3 (.int .i64 a0_3);have Z36_4:=cz_ BK552.out 4 (.string a0_4);have Y36_0:=bF_ BK552.out 0;have Y36_1:=bF_ BK552.out 1;have Y36_2:=bF_ BK552.out 2;have Y36_3:=bF_ BK552.out 3;have Y36_4:=bF_ BK552.out 4;have Z37_0:=cz_ BK553.out 0 (.int .i64 a1_0);have Z37_1:=cz_ BK553.out 1 (.int .i64 a1_1);have Z37_2:=cz_ BK553.out 2 (.int .i64 a1_2);have Z37_3:=cz_ BK553.out 3 (.int .i64 a1_3);have Z37_4:=cz_ BK553.out 4 (.string a1_4);have Y37_0:=bF_ BK553.out 0;have Y37_1:=bF_ BK553.out 1;have Y37_2:=bF_ BK553.out 2;have Y37_3:=bF_ BK553.out 3;have Y37_4:=bF_ BK553.out 4))
  go_ret
  exact ⟨fi_,bel_⟩

def laws_eqEntry.f (a0_0:Int) (a0_1:Int) (a0_2:Int) (a0_3:Int) (a0_4:Int) (a0_5:Int) (a0_6:ByteArray) (a1_0:Int) (a1_1:Int) (a1_2:Int) (a1_3:Int) (a1_4:Int) (a1_5:Int) (a1_6:ByteArray):Option (Bool):=if a0_0=a1_0 then (if a0_1=a1_1 then ((laws_eqOp.f a0_2 a0_3 a0_4 a0_5 a0_6 a1_2 a1_3 a1_4 a1_5 a1_6).bind fun t556=>(if t556=true then (some true) else (some false))) else (some false)) else (some false)
theorem laws_eqEntry.calls (a0_0:Int) (a0_1:Int) (a0_2:Int) (a0_3:Int) (a0_4:Int) (a0_5:Int) (a0_6:ByteArray) (a1_0:Int) (a1_1:Int) (a1_2:Int) (a1_3:Int) (a1_4:Int) (a1_5:Int) (a1_6:ByteArray) (r:Bool) (w:World) (h:laws_eqEntry.f a0_0 a0_1 a0_2 a0_3 a0_4 a0_5 a0_6 a1_0 a1_1 a1_2 a1_3 a1_4 a1_5 a1_6=some r) :
  Calls Tryd.prog 102 #[.agg #[.int .i64 a0_0,.int .i64 a0_1,.int .i64 a0_2,.int .i64 a0_3,.int .i64 a0_4,.int .i64 a0_5,.string a0_6],.agg #[.int .i64 a1_0,.int .i64 a1_1,.int .i64 a1_2,.int .i64 a1_3,.int .i64 a1_4,.int .i64 a1_5,.string a1_6]] w fun e w'=>e=.returned (.bool r)∧Below w.heap.size w w':=by
 have hu44:=Tryd.underlying44
 have hu42:=Tryd.underlying42
 have HB:=a_ (Below.refl w.heap.size w)
 unfold laws_eqEntry.f at h
 have H:=h
 clear h
 by_cases c3:a0_0=a1_0
 ·rw [if_pos c3] at H
  have c3b0:(a0_0==a1_0)=true:=beq_iff_eq.mpr c3
  have c3b1:(a0_0 != a1_0)=false:=be_ c3
  clear c3
  by_cases c4:a0_1=a1_1
  ·rw [if_pos c4] at H
   have c4b0:(a0_1==a1_1)=true:=beq_iff_eq.mpr c4
   have c4b1:(a0_1 != a1_1)=false:=be_ c4
   clear c4
   replace H:=bs_ H
   obtain ⟨t556,A50,H⟩:=H
   try dsimp only at H
   have A5:=a_ A50
   clear A50
   by_cases c6:t556=true
   ·subst c6
    have H1:(some true)=some r:=by rw [if_pos rfl] at H;exact H
    clear H
    have H:=H1
    clear H1
    obtain rfl:=sj_ H
    go_enter Tryd.func102,Tryd.ntmps102
    go_wp2_with (first|((with_reducible refine gD_ (N:=2) rfl ?_);refine bx_ 2 (#[.int .i64 a0_0,.int .i64 a0_1,.int .i64 a0_2,.int .i64 a0_3,.int .i64 a0_4,.int .i64 a0_5,.string a0_6]) 44 ?_;intro gb554 hg w7 hbox hb;have n0_:=a_ (bS_ (bel_) hb);have n1_:=a_ (hbox);have n2_:=a_ ((by rw [hg];exact (below_size (bel_)):w.heap.size≤gb554));have n3_:=a_ ((by rw [hg];exact (below_size (bel_)):w.heap.size≤gb554));clear HB;have HB:=n0_;have BK554:=n1_;have GW554:=n2_;have GE554:=n3_;clear n0_ n1_ n2_ n3_;clear hb hbox hg)|((with_reducible refine gD_ (N:=3) rfl ?_);refine bx_ 3 (#[.int .i64 a1_0,.int .i64 a1_1,.int .i64 a1_2,.int .i64 a1_3,.int .i64 a1_4,.int .i64 a1_5,.string a1_6]) 44 ?_;intro gb555 hg w8 hbox hb;have n0_:=a_ (bb_ BK554.out hb);have n1_:=a_ (bS_ (bel_) hb);have n2_:=a_ (hbox);have n3_:=a_ ((by rw [hg];exact (below_size (bel_)):w.heap.size≤gb555));have n4_:=a_ ((by rw [hg];exact (below_size (bel_)):w.heap.size≤gb555));have n5_:=a_ ((by rw [hg];exact Nat.ne_of_lt (blk_lt (g:=gb554) (o:=.cells #[.int .i64 a0_0,.int .i64 a0_1,.int .i64 a0_2,.int .i64 a0_3,.int .i64 a0_4,.int .i64 a0_5,.string a0_6] 44 (0,0)) (bp_ BK554.out)):gb554≠gb555));have n6_:=a_ ((by rw [hg];exact Nat.ne_of_gt (blk_lt (g:=gb554) (o:=.cells #[.int .i64 a0_0,.int .i64 a0_1,.int .i64 a0_2,.int .i64 a0_3,.int .i64 a0_4,.int .i64 a0_5,.string a0_6] 44 (0,0)) (bp_ BK554.out)):gb555≠gb554));clear BK554;clear HB;have BK554:=n0_;have HB:=n1_;have BK555:=n2_;have GW555:=n3_;have GE555:=n4_;have NB554_555:=n5_;have NB555_554:=n6_;clear n0_ n1_ n2_ n3_ n4_ n5_ n6_;clear hb hbox hg;have hnb9:=NB554_555.out;have hnc9:=NB555_554.out;have Z10_0:=cz_ BK554.out 0 (.int .i64 a0_0);have Z10_1:=cz_ BK554.out 1 (.int .i64 a0_1);have Z10_2:=cz_ BK554.out 2 (.int .i64 a0_2);have Z10_3:=cz_ BK554.out 3 (.int .i64 a0_3);have Z10_4:=cz_ BK554.out 4 (.int .i64 a0_4);have Z10_5:=cz_ BK554.out 5 (.int .i64 a0_5);have Z10_6:=cz_ BK554.out 6 (.string a0_6);have Y10_0:=bF_ BK554.out 0;have Y10_1:=bF_ BK554.out 1;have Y10_2:=bF_ BK554.out 2;have Y10_3:=bF_ BK554.out 3;have Y10_4:=bF_ BK554.out 4;have Y10_5:=bF_ BK554.out 5;have Y10_6:=bF_ BK554.out 6;have Z11_0:=cz_ BK555.out 0 (.int .i64 a1_0);have Z11_1:=cz_ BK555.out 1 (.int .i64 a1_1);have Z11_2:=cz_ BK555.out 2 (.int .i64 a1_2);have Z11_3:=cz_ BK555.out 3 (.int .i64 a1_3);have Z11_4:=cz_ BK555.out 4 (.int .i64 a1_4);have Z11_5:=cz_ BK555.out 5 (.int .i64 a1_5);have Z11_6:=cz_ BK555.out 6 (.string a1_6);have Y11_0:=bF_ BK555.out 0;have Y11_1:=bF_ BK555.out 1;have Y11_2:=bF_ BK555.out 2;have Y11_3:=bF_ BK555.out 3;have Y11_4:=bF_ BK555.out 4;have Y11_5:=bF_ BK555.out 5;have Y11_6:=bF_ BK555.out 6)|((with_reducible refine gC_ (f:=137) rfl ?_);refine gl_ 19 Tryd.func137 #[.agg #[.int .i64 a0_2,.int .i64 a0_3,.int .i64 a0_4,.int .i64 a0_5,.string a0_6],.agg #[.int .i64 a1_2,.int .i64 a1_3,.int .i64 a1_4,.int .i64 a1_5,.string a1_6]] ?_;(with_reducible refine (laws_eqOp.calls a0_2 a0_3 a0_4 a0_5 a0_6 a1_2 a1_3 a1_4 a1_5 a1_6 true _ A5.out).mono ?_);rintro e w12 ⟨rfl,hb⟩;refine ⟨_,rfl,?_⟩;replace HB:=a_ (bS_ (bel_) hb);replace BK554:=a_ (bb_ BK554.out hb);replace BK555:=a_ (bb_ BK555.out hb);(try clear hb)))
    go_ret
    exact ⟨fi_,bel_⟩
   ·replace c6:=Bool.eq_false_iff.mpr c6
    subst c6
    have H1:(some false)=some r:=by rw [if_neg (show ¬ (false=true) by decide)] at H;exact H
    clear H
    have H:=H1
    clear H1
    obtain rfl:=sj_ H
    go_enter Tryd.func102,Tryd.ntmps102
    go_wp2_with (first|((with_reducible refine gD_ (N:=2) rfl ?_);refine bx_ 2 (#[.int .i64 a0_0,.int .i64 a0_1,.int .i64 a0_2,.int .i64 a0_3,.int .i64 a0_4,.int .i64 a0_5,.string a0_6]) 44 ?_;intro gb554 hg w13 hbox hb;have n0_:=a_ (bS_ (bel_) hb);have n1_:=a_ (hbox);have n2_:=a_ ((by rw [hg];exact (below_size (bel_)):w.heap.size≤gb554));have n3_:=a_ ((by rw [hg];exact (below_size (bel_)):w.heap.size≤gb554));clear HB;have HB:=n0_;have BK554:=n1_;have GW554:=n2_;have GE554:=n3_;clear n0_ n1_ n2_ n3_;clear hb hbox hg)|((with_reducible refine gD_ (N:=3) rfl ?_);refine bx_ 3 (#[.int .i64 a1_0,.int .i64 a1_1,.int .i64 a1_2,.int .i64 a1_3,.int .i64 a1_4,.int .i64 a1_5,.string a1_6]) 44 ?_;intro gb555 hg w14 hbox hb;have n0_:=a_ (bb_ BK554.out hb);have n1_:=a_ (bS_ (bel_) hb);have n2_:=a_ (hbox);have n3_:=a_ ((by rw [hg];exact (below_size (bel_)):w.heap.size≤gb555));have n4_:=a_ ((by rw [hg];exact (below_size (bel_)):w.heap.size≤gb555));have n5_:=a_ ((by rw [hg];exact Nat.ne_of_lt (blk_lt (g:=gb554) (o:=.cells #[.int .i64 a0_0,.int .i64 a0_1,.int .i64 a0_2,.int .i64 a0_3,.int .i64 a0_4,.int .i64 a0_5,.string a0_6] 44 (0,0)) (bp_ BK554.out)):gb554≠gb555));have n6_:=a_ ((by rw [hg];exact Nat.ne_of_gt (blk_lt (g:=gb554) (o:=.cells #[.int .i64 a0_0,.int .i64 a0_1,.int .i64 a0_2,.int .i64 a0_3,.int .i64 a0_4,.int .i64 a0_5,.string a0_6] 44 (0,0)) (bp_ BK554.out)):gb555≠gb554));clear BK554;clear HB;have BK554:=n0_;have HB:=n1_;have BK555:=n2_;have GW555:=n3_;have GE555:=n4_;have NB554_555:=n5_;have NB555_554:=n6_;clear n0_ n1_ n2_ n3_ n4_ n5_ n6_;clear hb hbox hg;have hnb15:=NB554_555.out;have hnc15:=NB555_554.out;have Z16_0:=cz_ BK554.out 0 (.int .i64 a0_0);have Z16_1:=cz_ BK554.out 1 (.int .i64 a0_1);have Z16_2:=cz_ BK554.out 2 (.int .i64 a0_2);have Z16_3:=cz_ BK554.out 3 (.int .i64 a0_3);have Z16_4:=cz_ BK554.out 4 (.int .i64 a0_4);have Z16_5:=cz_ BK554.out 5 (.int .i64 a0_5);have Z16_6:=cz_ BK554.out 6 (.string a0_6);have Y16_0:=bF_ BK554.out 0;have Y16_1:=bF_ BK554.out 1;have Y16_2:=bF_ BK554.out 2;have Y16_3:=bF_ BK554.out 3;have Y16_4:=bF_ BK554.out 4;have Y16_5:=bF_ BK554.out 5;have Y16_6:=bF_ BK554.out 6;have Z17_0:=cz_ BK555.out 0 (.int .i64 a1_0);have Z17_1:=cz_ BK555.out 1 (.int .i64 a1_1);have Z17_2:=cz_ BK555.out 2 (.int .i64 a1_2);have Z17_3:=cz_ BK555.out 3 (.int .i64 a1_3);have Z17_4:=cz_ BK555.out 4 (.int .i64 a1_4);have Z17_5:=cz_ BK555.out 5 (.int .i64 a1_5);have Z17_6:=cz_ BK555.out 6 (.string a1_6);have Y17_0:=bF_ BK555.out 0;have Y17_1:=bF_ BK555.out 1;have Y17_2:=bF_ BK555.out 2;have Y17_3:=bF_ BK555.out 3;have Y17_4:=bF_ BK555.out 4;have Y17_5:=bF_ BK555.out 5;have Y17_6:=bF_ BK555.out 6)|((with_reducible refine gC_ (f:=137) rfl ?_);refine gl_ 19 Tryd.func137 #[.agg #[.int .i64 a0_2,.int .i64 a0_3,.int .i64 a0_4,.int .i64 a0_5,.string a0_6],.agg #[.int .i64 a1_2,.int .i64 a1_3,.int .i64 a1_4,.int .i64 a1_5,.string a1_6]] ?_;(with_reducible refine (laws_eqOp.calls a0_2 a0_3 a0_4 a0_5 a0_6 a1_2 a1_3 a1_4 a1_5 a1_6 false _ A5.out).mono ?_);rintro e w18 ⟨rfl,hb⟩;refine ⟨_,rfl,?_⟩;replace HB:=a_ (bS_ (bel_) hb);replace BK554:=a_ (bb_ BK554.out hb);replace BK555:=a_ (bb_ BK555.out hb);(try clear hb)))
    go_ret
    exact ⟨fi_,bel_⟩
  ·rw [if_neg c4] at H
   have c4b0:(a0_1==a1_1)=false:=bn_ c4
   have c4b1:(a0_1 != a1_1)=true:=bne_iff_ne.mpr c4
   obtain rfl:=sj_ H
   go_enter Tryd.func102,Tryd.ntmps102
   go_wp2_with (first|((with_reducible refine gD_ (N:=2) rfl ?_);refine bx_ 2 (#[.int .i64 a0_0,.int .i64 a0_1,.int .i64 a0_2,.int .i64 a0_3,.int .i64 a0_4,.int .i64 a0_5,.string a0_6]) 44 ?_;intro gb554 hg w19 hbox hb;have n0_:=a_ (bS_ (bel_) hb);have n1_:=a_ (hbox);have n2_:=a_ ((by rw [hg];exact (below_size (bel_)):w.heap.size≤gb554));have n3_:=a_ ((by rw [hg];exact (below_size (bel_)):w.heap.size≤gb554));clear HB;have HB:=n0_;have BK554:=n1_;have GW554:=n2_;have GE554:=n3_;clear n0_ n1_ n2_ n3_;clear hb hbox hg)|((with_reducible refine gD_ (N:=3) rfl ?_);refine bx_ 3 (#[.int .i64 a1_0,.int .i64 a1_1,.int .i64 a1_2,.int .i64 a1_3,.int .i64 a1_4,.int .i64 a1_5,.string a1_6]) 44 ?_;intro gb555 hg w20 hbox hb;have n0_:=a_ (bb_ BK554.out hb);have n1_:=a_ (bS_ (bel_) hb);have n2_:=a_ (hbox);have n3_:=a_ ((by rw [hg];exact (below_size (bel_)):w.heap.size≤gb555));have n4_:=a_ ((by rw [hg];exact (below_size (bel_)):w.heap.size≤gb555));have n5_:=a_ ((by rw [hg];exact Nat.ne_of_lt (blk_lt (g:=gb554) (o:=.cells #[.int .i64 a0_0,.int .i64 a0_1,.int .i64 a0_2,.int .i64 a0_3,.int .i64 a0_4,.int .i64 a0_5,.string a0_6] 44 (0,0)) (bp_ BK554.out)):gb554≠gb555));have n6_:=a_ ((by rw [hg];exact Nat.ne_of_gt (blk_lt (g:=gb554) (o:=.cells #[.int .i64 a0_0,.int .i64 a0_1,.int .i64 a0_2,.int .i64 a0_3,.int .i64 a0_4,.int .i64 a0_5,.string a0_6] 44 (0,0)) (bp_ BK554.out)):gb555≠gb554));clear BK554;clear HB;have BK554:=n0_;have HB:=n1_;have BK555:=n2_;have GW555:=n3_;have GE555:=n4_;have NB554_555:=n5_;have NB555_554:=n6_;clear n0_ n1_ n2_ n3_ n4_ n5_ n6_;clear hb hbox hg;have hnb21:=NB554_555.out;have hnc21:=NB555_554.out;have Z22_0:=cz_ BK554.out 0 (.int .i64 a0_0);have Z22_1:=cz_ BK554.out 1 (.int .i64 a0_1);have Z22_2:=cz_ BK554.out 2 (.int .i64 a0_2);have Z22_3:=cz_ BK554.out 3 (.int .i64 a0_3);have Z22_4:=cz_ BK554.out 4 (.int .i64 a0_4);have Z22_5:=cz_ BK554.out 5 (.int .i64 a0_5);have Z22_6:=cz_ BK554.out 6 (.string a0_6);have Y22_0:=bF_ BK554.out 0;have Y22_1:=bF_ BK554.out 1;have Y22_2:=bF_ BK554.out 2;have Y22_3:=bF_ BK554.out 3;have Y22_4:=bF_ BK554.out 4;have Y22_5:=bF_ BK554.out 5;have Y22_6:=bF_ BK554.out 6;have Z23_0:=cz_ BK555.out 0 (.int .i64 a1_0);have Z23_1:=cz_ BK555.out 1 (.int .i64 a1_1);have Z23_2:=cz_ BK555.out 2 (.int .i64 a1_2);have Z23_3:=cz_ BK555.out 3 (.int .i64 a1_3);have Z23_4:=cz_ BK555.out 4 (.int .i64 a1_4);have Z23_5:=cz_ BK555.out 5 (.int .i64 a1_5);have Z23_6:=cz_ BK555.out 6 (.string a1_6);have Y23_0:=bF_ BK555.out 0;have Y23_1:=bF_ BK555.out 1;have Y23_2:=bF_ BK555.out 2;have Y23_3:=bF_ BK555.out 3;have Y23_4:=bF_ BK555.out 4;have Y23_5:=bF_ BK555.out 5;have Y23_6:=bF_ BK555.out 6))
   go_ret
   exact ⟨fi_,bel_⟩
 ·rw [if_neg c3] at H
  have c3b0:(a0_0==a1_0)=false:=bn_ c3
  have c3b1:(a0_0 != a1_0)=true:=bne_iff_ne.mpr c3
  obtain rfl:=sj_ H
  go_enter Tryd.func102,Tryd.ntmps102
  go_wp2_with (first|((with_reducible refine gD_ (N:=2) rfl ?_);refine bx_ 2 (#[.int .i64 a0_0,.int .i64 a0_1,.int .i64 a0_2,.int .i64 a0_3,.int .i64 a0_4,.int .i64 a0_5,.string a0_6]) 44 ?_;intro gb554 hg w24 hbox hb;have n0_:=a_ (bS_ (bel_) hb);have n1_:=a_ (hbox);have n2_:=a_ ((by rw [hg];exact (below_size (bel_)):w.heap.size≤gb554));have n3_:=a_ ((by rw [hg];exact (below_size (bel_)):w.heap.size≤gb554));clear HB;have HB:=n0_;have BK554:=n1_;have GW554:=n2_;have GE554:=n3_;clear n0_ n1_ n2_ n3_;clear hb hbox hg)|((with_reducible refine gD_ (N:=3) rfl ?_);refine bx_ 3 (#[.int .i64 a1_0,.int .i64 a1_1,.int .i64 a1_2,.int .i64 a1_3,.int .i64 a1_4,.int .i64 a1_5,.string a1_6]) 44 ?_;intro gb555 hg w25 hbox hb;have n0_:=a_ (bb_ BK554.out hb);have n1_:=a_ (bS_ (bel_) hb);have n2_:=a_ (hbox);have n3_:=a_ ((by rw [hg];exact (below_size (bel_)):w.heap.size≤gb555));have n4_:=a_ ((by rw [hg];exact (below_size (bel_)):w.heap.size≤gb555));have n5_:=a_ ((by rw [hg];exact Nat.ne_of_lt (blk_lt (g:=gb554) (o:=.cells #[.int .i64 a0_0,.int .i64 a0_1,.int .i64 a0_2,.int .i64 a0_3,.int .i64 a0_4,.int .i64 a0_5,.string a0_6] 44 (0,0)) (bp_ BK554.out)):gb554≠gb555));have n6_:=a_ ((by rw [hg];exact Nat.ne_of_gt (blk_lt (g:=gb554) (o:=.cells #[.int .i64 a0_0,.int .i64 a0_1,.int .i64 a0_2,.int .i64 a0_3,.int .i64 a0_4,.int .i64 a0_5,.string a0_6] 44 (0,0)) (bp_ BK554.out)):gb555≠gb554));clear BK554;clear HB;have BK554:=n0_;have HB:=n1_;have BK555:=n2_;have GW555:=n3_;have GE555:=n4_;have NB554_555:=n5_;have NB555_554:=n6_;clear n0_ n1_ n2_ n3_ n4_ n5_ n6_;clear hb hbox hg;have hnb26:=NB554_555.out;have hnc26:=NB555_554.out;have Z27_0:=cz_ BK554.out 0 (.int .i64 a0_0);have Z27_1:=cz_ BK554.out 1 (.int .i64 a0_1);have Z27_2:=cz_ BK554.out 2 (.int .i64 a0_2);have Z27_3:=cz_ BK554.out 3 (.int .i64 a0_3);have Z27_4:=cz_ BK554.out 4 (.int .i64 a0_4);have Z27_5:=cz_ BK554.out 5 (.int .i64 a0_5);have Z27_6:=cz_ BK554.out 6 (.string a0_6);have Y27_0:=bF_ BK554.out 0;have Y27_1:=bF_ BK554.out 1;have Y27_2:=bF_ BK554.out 2;have Y27_3:=bF_ BK554.out 3;have Y27_4:=bF_ BK554.out 4;have Y27_5:=bF_ BK554.out 5;have Y27_6:=bF_ BK554.out 6;have Z28_0:=cz_ BK555.out 0 (.int .i64 a1_0);have Z28_1:=cz_ BK555.out 1 (.int .i64 a1_1);have Z28_2:=cz_ BK555.out 2 (.int .i64 a1_2);have Z28_3:=cz_ BK555.out 3 (.int .i64 a1_3);have Z28_4:=cz_ BK555.out 4 (.int .i64 a1_4);have Z28_5:=cz_ BK555.out 5 (.int .i64 a1_5);have Z28_6:=cz_ BK555.out 6 (.string a1_6);have Y28_0:=bF_ BK555.out 0;have Y28_1:=bF_ BK555.out 1;have Y28_2:=bF_ BK555.out 2;have Y28_3:=bF_ BK555.out 3;have Y28_4:=bF_ BK555.out 4;have Y28_5:=bF_ BK555.out 5;have Y28_6:=bF_ BK555.out 6))
  go_ret
  exact ⟨fi_,bel_⟩

def laws_eqEntryS.l0:Nat→List (S44)→List (S44)→Int→Option (Bool)
 | 0,_,_,_=>none
 | k+1,x0,x1,x5=>if x5 < (x0.length:Int) then (if 0≤x5 then (if x5 < (x1.length:Int) then ((laws_eqEntry.f ((rd_T44 x0 x5).f0) ((rd_T44 x0 x5).f1) ((rd_T44 x0 x5).f2.f0) ((rd_T44 x0 x5).f2.f1) ((rd_T44 x0 x5).f2.f2) ((rd_T44 x0 x5).f2.f3) ((rd_T44 x0 x5).f2.f4) ((rd_T44 x1 x5).f0) ((rd_T44 x1 x5).f1) ((rd_T44 x1 x5).f2.f0) ((rd_T44 x1 x5).f2.f1) ((rd_T44 x1 x5).f2.f2) ((rd_T44 x1 x5).f2.f3) ((rd_T44 x1 x5).f2.f4)).bind fun t559=>(if t559=true then (laws_eqEntryS.l0 k x0 x1 (wrap64 (x5+1))) else (some false))) else (none)) else (none)) else (some true)
def laws_eqEntryS.f (k:Nat) (l0:List (S44)) (l1:List (S44)):Option (Bool):=if (l0.length:Int)=(l1.length:Int) then (laws_eqEntryS.l0 k l0 l1 0) else (some false)
theorem laws_eqEntryS.mono_l:∀ k,(∀ y0 y1 y2,LeO (laws_eqEntryS.l0 k y0 y1 y2) (laws_eqEntryS.l0 (k+1) y0 y1 y2))
 | 0=>fun _ _ _ r h=>by simp [laws_eqEntryS.l0] at h
 | k+1=>by
  have ih0:=laws_eqEntryS.mono_l k
  ·intro y0 y1 y2
   unfold laws_eqEntryS.l0
   repeat' first
   | (with_reducible exact ih0 _ _ _)
   | (with_reducible exact LeO.refl _)
   | (with_reducible exact LeO.none _)
   | (with_reducible refine LeO.ite ?_ ?_)
   | (with_reducible refine LeO.bind ?_ (fun _=>?_))
   | exact ih0 _ _ _
   | exact LeO.none _
   | refine LeO.ite ?_ ?_
   | refine LeO.bind ?_ (fun _=>?_)
theorem laws_eqEntryS.mono:∀ a0 a1 k,LeO (laws_eqEntryS.f k a0 a1) (laws_eqEntryS.f (k+1) a0 a1):=by
 intro a0 a1 k
 have ih0:=laws_eqEntryS.mono_l k
 unfold laws_eqEntryS.f
 repeat' first
   | (with_reducible exact ih0 _ _ _)
   | (with_reducible exact LeO.refl _)
   | (with_reducible exact LeO.none _)
   | (with_reducible refine LeO.ite ?_ ?_)
   | (with_reducible refine LeO.bind ?_ (fun _=>?_))
   | exact ih0 _ _ _
   | exact LeO.none _
   | refine LeO.ite ?_ ?_
   | refine LeO.bind ?_ (fun _=>?_)
def laws_eqEntryS.T6:Bool×List (List Nat×List Nat):=(true,[([],[]),([],[]),([0,1],[0,1]),([2],[2]),([],[]),([],[]),([4,5],[4,5]),([6],[6]),([3,7],[3,7]),([8],[8])])
def laws_eqEntryS.B6:List Nat:=[0,0,3,7,0,0,48,112,255,511]
theorem laws_eqEntryS.tab6:rtab .any (opsOf Tryd.f52 6)=laws_eqEntryS.T6:=by kernel_rfl
theorem laws_eqEntryS.bits6:waitsOk laws_eqEntryS.T6.2 laws_eqEntryS.B6=true:=by kernel_rfl
end Go.Proofs.YtdpklbomhdpimaaDoor.P
