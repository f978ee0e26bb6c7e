/- Joined by a program (wip/shake.py): the declarations that 'YtdpklbomhdpimaaDoorCardFnHearAgain' reaches. -/
import Derived.Test.YtdpklbomhdpimaaDoorHb2
set_option linter.unusedVariables false
set_option linter.unusedSimpArgs false
set_option linter.unusedSectionVars false
set_option maxHeartbeats 8000000
set_option maxRecDepth 100000
namespace Go.Proofs.YtdpklbomhdpimaaDoor.P
open Go.RowKit Go.Proofs.YtdpklbomhdpimaaDoorW.PrintWords Go.Proofs.YtdpklbomhdpimaaDoorW.PrintLast Go.Proofs.YtdpklbomhdpimaaDoorW.PrintMore
theorem quiet_d {P:Program} {f:FuncId} {args:Array Value} {w:World} {d n:Nat} {v:Value} (h:Calls P f args (w.drewN (d+n)) fun e w'=>e=.returned v∧Drawn0 (w.drewN (d+n)) w') :
  Calls P f args (w.drewN (d+n)) fun e w''=>e=.returned v∧∃ m,w''=w.drewN (d+m) :=
 h.mono fun _ _ ⟨he,⟨m,hm⟩⟩=>⟨he,n+m,by rw [hm,World.drewN_drewN,Nat.add_assoc]⟩
def impl_changeOf.f (k:Nat) (a0 a1 a2 a3:Int) (a4:ByteArray):Option Bool :=
 (impl_isMade.f a1).bind fun m=>if m=true then
  (if a0=1 then ((impl_placeOk.f a2 a3).bind fun p=>if p=true then impl_textOk.f k a4 else some false)
  else if a0=2 then (if a2=0 then (if a3=0 then impl_textOk.f k a4 else some false) else some false)
  else if a0=3 then ((impl_placeOk.f a2 a3).bind fun p=>if p=true then some (a4.toList.isEmpty) else some false)
  else some false) else some false
theorem impl_changeOf.mono (a0 a1 a2 a3:Int) (a4:ByteArray) (k:Nat):LeO (impl_changeOf.f k a0 a1 a2 a3 a4) (impl_changeOf.f (k+1) a0 a1 a2 a3 a4):=by
 unfold impl_changeOf.f
 repeat' first
   | (with_reducible exact impl_textOk.mono _ _)
   | (with_reducible exact LeO.refl _)
   | (with_reducible refine LeO.ite ?_ ?_)
   | (with_reducible refine LeO.bind ?_ (fun _=>?_))
def ChV (a0 a1 a2 a3:Int) (a4:ByteArray):Value :=
 if a0=1 then .iface 156 (.agg #[.int .i64 a1,.int .i64 a2,.int .i64 a3,.string a4])
 else if a0=2 then .iface 159 (.agg #[.int .i64 a1,.string a4])
 else .iface 161 (.agg #[.int .i64 a1,.int .i64 a2,.int .i64 a3])
def ChPost (w:World) (a0 a1 a2 a3:Int) (a4:ByteArray) (r:Bool) (e:Ending) (w':World):Prop :=
 ∃ v:Value,e=.returned (.tuple #[v,.bool r])∧(r=true→v=ChV a0 a1 a2 a3 a4)∧Below w.heap.size w w'
theorem below_box0 (w:World) (o:Obj):Below w.heap.size w (w.alloc o):=(Below.refl _ _).alloc (Nat.le_refl _) _
theorem changeOf_unmade (a0 a1 a2 a3:Int) (a4:ByteArray) (w:World) (hm:impl_isMade.f a1=some false) (hG:Glob w) :
  Calls Tryd.prog 92 #[.agg #[.int .i64 a0,.int .i64 a1,.int .i64 a2,.int .i64 a3,.string a4]] w (ChPost w a0 a1 a2 a3 a4 false):=by
 have hGa:Glob (w.alloc (.cells #[.int .i64 a0,.int .i64 a1,.int .i64 a2,.int .i64 a3,.string a4] 42)):=hG.below (below_box0 w _)
 have HG:=a_ hGa
 clear hGa hG
 have Hm:=a_ hm
 clear hm
 go_enter Tryd.func92,Tryd.ntmps92
 go_wp2_with (go_at_call 127;refine (impl_isMade.calls a1 _ _ Hm.out HG.out).mono ?_;rintro e w' ⟨rfl,⟨nd,rfl⟩⟩)
 go_ret2
 exact ⟨_,rfl,(fun h=>by cases h),by (with_reducible repeat (first|exact below_box0 w _|apply pw_below_drewN))⟩
theorem changeOf_make (k:Nat) (a0 a1 a2 a3:Int) (a4:ByteArray) (r:Bool) (w:World) (hm:impl_isMade.f a1=some true) (hp:impl_placeOk.f a2 a3=some true) (ht:impl_textOk.f k a4=some r) (h0:a0=1) (hG:Glob w) :
  Calls Tryd.prog 92 #[.agg #[.int .i64 a0,.int .i64 a1,.int .i64 a2,.int .i64 a3,.string a4]] w (ChPost w a0 a1 a2 a3 a4 r):=by
 have hGa:Glob (w.alloc (.cells #[.int .i64 a0,.int .i64 a1,.int .i64 a2,.int .i64 a3,.string a4] 42)):=hG.below (below_box0 w _)
 have HG:=a_ hGa
 clear hGa hG
 subst h0
 have Hm:=a_ hm
 have Hp:=a_ hp
 have Ht:=a_ ht
 clear hm hp ht
 go_enter Tryd.func92,Tryd.ntmps92
 go_wp2_with (go_at_call 127;refine (impl_isMade.calls a1 _ _ Hm.out HG.out).mono ?_;rintro e w' ⟨rfl,⟨nd,rfl⟩⟩)
 go_quiet ((first|(go_at_call 128;refine quiet_d (impl_placeOk.calls a2 a3 true _ Hp.out (by (with_reducible repeat (first|exact HG.out|apply Glob.drewN|apply Glob.drew)))))|(go_at_call 129;refine quiet_d (impl_textOk.calls k a4 r _ Ht.out))))
 go_wp2
 go_ret2
 exact ⟨_,rfl,fun _=>rfl,by (with_reducible repeat (first|exact below_box0 w _|apply pw_below_drewN))⟩
theorem changeOf_make_no (a0 a1 a2 a3:Int) (a4:ByteArray) (w:World) (hm:impl_isMade.f a1=some true) (hp:impl_placeOk.f a2 a3=some false) (h0:a0=1) (hG:Glob w) :
  Calls Tryd.prog 92 #[.agg #[.int .i64 a0,.int .i64 a1,.int .i64 a2,.int .i64 a3,.string a4]] w (ChPost w a0 a1 a2 a3 a4 false):=by
 have hGa:Glob (w.alloc (.cells #[.int .i64 a0,.int .i64 a1,.int .i64 a2,.int .i64 a3,.string a4] 42)):=hG.below (below_box0 w _)
 have HG:=a_ hGa
 clear hGa hG
 subst h0
 have Hm:=a_ hm
 have Hp:=a_ hp
 clear hm hp
 go_enter Tryd.func92,Tryd.ntmps92
 go_wp2_with (go_at_call 127;refine (impl_isMade.calls a1 _ _ Hm.out HG.out).mono ?_;rintro e w' ⟨rfl,⟨nd,rfl⟩⟩)
 go_quiet ((go_at_call 128;refine quiet_d (impl_placeOk.calls a2 a3 false _ Hp.out (by (with_reducible repeat (first|exact HG.out|apply Glob.drewN|apply Glob.drew))))))
 go_wp2
 go_ret2
 exact ⟨_,rfl,(fun h=>by cases h),by (with_reducible repeat (first|exact below_box0 w _|apply pw_below_drewN))⟩
theorem changeOf_text (k:Nat) (a0 a1 a2 a3:Int) (a4:ByteArray) (r:Bool) (w:World) (hm:impl_isMade.f a1=some true) (h2:a2=0) (h3:a3=0) (ht:impl_textOk.f k a4=some r) (h0:a0=2) (hG:Glob w) :
  Calls Tryd.prog 92 #[.agg #[.int .i64 a0,.int .i64 a1,.int .i64 a2,.int .i64 a3,.string a4]] w (ChPost w a0 a1 a2 a3 a4 r):=by
 have hGa:Glob (w.alloc (.cells #[.int .i64 a0,.int .i64 a1,.int .i64 a2,.int .i64 a3,.string a4] 42)):=hG.below (below_box0 w _)
 have HG:=a_ hGa
 clear hGa hG
 subst h0 h2 h3
 have Hm:=a_ hm
 have Ht:=a_ ht
 clear hm ht
 go_enter Tryd.func92,Tryd.ntmps92
 go_wp2_with (go_at_call 127;refine (impl_isMade.calls a1 _ _ Hm.out HG.out).mono ?_;rintro e w' ⟨rfl,⟨nd,rfl⟩⟩)
 go_quiet ((go_at_call 129;refine quiet_d (impl_textOk.calls k a4 r _ Ht.out)))
 go_wp2
 go_ret2
 exact ⟨_,rfl,fun _=>rfl,by (with_reducible repeat (first|exact below_box0 w _|apply pw_below_drewN))⟩
theorem changeOf_text_no2 (a0 a1 a2 a3:Int) (a4:ByteArray) (w:World) (hm:impl_isMade.f a1=some true) (h2:a2≠0) (h0:a0=2) (hG:Glob w) :
  Calls Tryd.prog 92 #[.agg #[.int .i64 a0,.int .i64 a1,.int .i64 a2,.int .i64 a3,.string a4]] w (ChPost w a0 a1 a2 a3 a4 false):=by
 have hGa:Glob (w.alloc (.cells #[.int .i64 a0,.int .i64 a1,.int .i64 a2,.int .i64 a3,.string a4] 42)):=hG.below (below_box0 w _)
 have HG:=a_ hGa
 clear hGa hG
 subst h0
 have e2:(a2==0)=false:=beq_eq_false_iff_ne.2 h2
 clear h2
 have Hm:=a_ hm
 clear hm
 go_enter Tryd.func92,Tryd.ntmps92
 go_wp2_with (go_at_call 127;refine (impl_isMade.calls a1 _ _ Hm.out HG.out).mono ?_;rintro e w' ⟨rfl,⟨nd,rfl⟩⟩)
 go_quiet (fail)
 go_wp2
 go_ret2
 exact ⟨_,rfl,(fun h=>by cases h),by (with_reducible repeat (first|exact below_box0 w _|apply pw_below_drewN))⟩
theorem changeOf_text_no3 (a0 a1 a2 a3:Int) (a4:ByteArray) (w:World) (hm:impl_isMade.f a1=some true) (h2:a2=0) (h3:a3≠0) (h0:a0=2) (hG:Glob w) :
  Calls Tryd.prog 92 #[.agg #[.int .i64 a0,.int .i64 a1,.int .i64 a2,.int .i64 a3,.string a4]] w (ChPost w a0 a1 a2 a3 a4 false):=by
 have hGa:Glob (w.alloc (.cells #[.int .i64 a0,.int .i64 a1,.int .i64 a2,.int .i64 a3,.string a4] 42)):=hG.below (below_box0 w _)
 have HG:=a_ hGa
 clear hGa hG
 subst h0 h2
 have e3:(a3==0)=false:=beq_eq_false_iff_ne.2 h3
 clear h3
 have Hm:=a_ hm
 clear hm
 go_enter Tryd.func92,Tryd.ntmps92
 go_wp2_with (go_at_call 127;refine (impl_isMade.calls a1 _ _ Hm.out HG.out).mono ?_;rintro e w' ⟨rfl,⟨nd,rfl⟩⟩)
 go_quiet (fail)
 go_wp2
 go_ret2
 exact ⟨_,rfl,(fun h=>by cases h),by (with_reducible repeat (first|exact below_box0 w _|apply pw_below_drewN))⟩
theorem changeOf_move (a0 a1 a2 a3:Int) (a4:ByteArray) (w:World) (hm:impl_isMade.f a1=some true) (hp:impl_placeOk.f a2 a3=some true) (h0:a0=3) (hG:Glob w) :
  Calls Tryd.prog 92 #[.agg #[.int .i64 a0,.int .i64 a1,.int .i64 a2,.int .i64 a3,.string a4]] w (ChPost w a0 a1 a2 a3 a4 a4.toList.isEmpty):=by
 have hGa:Glob (w.alloc (.cells #[.int .i64 a0,.int .i64 a1,.int .i64 a2,.int .i64 a3,.string a4] 42)):=hG.below (below_box0 w _)
 have HG:=a_ hGa
 clear hGa hG
 subst h0
 have Hm:=a_ hm
 have Hp:=a_ hp
 clear hm hp
 go_enter Tryd.func92,Tryd.ntmps92
 go_wp2_with (go_at_call 127;refine (impl_isMade.calls a1 _ _ Hm.out HG.out).mono ?_;rintro e w' ⟨rfl,⟨nd,rfl⟩⟩)
 go_quiet ((go_at_call 128;refine quiet_d (impl_placeOk.calls a2 a3 true _ Hp.out (by (with_reducible repeat (first|exact HG.out|apply Glob.drewN|apply Glob.drew))))))
 go_wp2
 go_ret2
 exact ⟨_,rfl,fun _=>rfl,by (with_reducible repeat (first|exact below_box0 w _|apply pw_below_drewN))⟩
theorem changeOf_move_no (a0 a1 a2 a3:Int) (a4:ByteArray) (w:World) (hm:impl_isMade.f a1=some true) (hp:impl_placeOk.f a2 a3=some false) (h0:a0=3) (hG:Glob w) :
  Calls Tryd.prog 92 #[.agg #[.int .i64 a0,.int .i64 a1,.int .i64 a2,.int .i64 a3,.string a4]] w (ChPost w a0 a1 a2 a3 a4 false):=by
 have hGa:Glob (w.alloc (.cells #[.int .i64 a0,.int .i64 a1,.int .i64 a2,.int .i64 a3,.string a4] 42)):=hG.below (below_box0 w _)
 have HG:=a_ hGa
 clear hGa hG
 subst h0
 have Hm:=a_ hm
 have Hp:=a_ hp
 clear hm hp
 go_enter Tryd.func92,Tryd.ntmps92
 go_wp2_with (go_at_call 127;refine (impl_isMade.calls a1 _ _ Hm.out HG.out).mono ?_;rintro e w' ⟨rfl,⟨nd,rfl⟩⟩)
 go_quiet ((go_at_call 128;refine quiet_d (impl_placeOk.calls a2 a3 false _ Hp.out (by (with_reducible repeat (first|exact HG.out|apply Glob.drewN|apply Glob.drew))))))
 go_wp2
 go_ret2
 exact ⟨_,rfl,(fun h=>by cases h),by (with_reducible repeat (first|exact below_box0 w _|apply pw_below_drewN))⟩
theorem changeOf_kind (a0 a1 a2 a3:Int) (a4:ByteArray) (w:World) (hm:impl_isMade.f a1=some true) (h1:a0≠1) (h2:a0≠2) (h3:a0≠3) (hG:Glob w) :
  Calls Tryd.prog 92 #[.agg #[.int .i64 a0,.int .i64 a1,.int .i64 a2,.int .i64 a3,.string a4]] w (ChPost w a0 a1 a2 a3 a4 false):=by
 have hGa:Glob (w.alloc (.cells #[.int .i64 a0,.int .i64 a1,.int .i64 a2,.int .i64 a3,.string a4] 42)):=hG.below (below_box0 w _)
 have HG:=a_ hGa
 clear hGa hG
 have e1:(a0==1)=false:=beq_eq_false_iff_ne.2 h1
 have e2:(a0==2)=false:=beq_eq_false_iff_ne.2 h2
 have e3:(a0==3)=false:=beq_eq_false_iff_ne.2 h3
 clear h1 h2 h3
 have Hm:=a_ hm
 clear hm
 go_enter Tryd.func92,Tryd.ntmps92
 go_wp2_with (go_at_call 127;refine (impl_isMade.calls a1 _ _ Hm.out HG.out).mono ?_;rintro e w' ⟨rfl,⟨nd,rfl⟩⟩)
 go_ret2
 exact ⟨_,rfl,(fun h=>by cases h),by (with_reducible repeat (first|exact below_box0 w _|apply pw_below_drewN))⟩
theorem impl_changeOf.calls (k:Nat) (a0 a1 a2 a3:Int) (a4:ByteArray) (r:Bool) (w:World) (h:impl_changeOf.f k a0 a1 a2 a3 a4=some r) (hG:Glob w) :
  Calls Tryd.prog 92 #[.agg #[.int .i64 a0,.int .i64 a1,.int .i64 a2,.int .i64 a3,.string a4]] w (ChPost w a0 a1 a2 a3 a4 r):=by
 unfold impl_changeOf.f at h
 obtain ⟨m,hm,h⟩:=Option.bind_eq_some_iff.1 h
 cases m with
 | false =>
  simp only [Bool.false_eq_true,if_false,Option.some.injEq] at h
  subst h
  exact changeOf_unmade a0 a1 a2 a3 a4 w hm hG
 | true =>
  simp only [if_true] at h
  by_cases h1:a0=1
  ·rw [if_pos h1] at h
   obtain ⟨p,hp,h⟩:=Option.bind_eq_some_iff.1 h
   cases p with
   | false =>
    simp only [Bool.false_eq_true,if_false,Option.some.injEq] at h
    subst h
    exact changeOf_make_no a0 a1 a2 a3 a4 w hm hp h1 hG
   | true =>
    simp only [if_true] at h
    exact changeOf_make k a0 a1 a2 a3 a4 r w hm hp h h1 hG
  ·rw [if_neg h1] at h
   by_cases h2:a0=2
   ·rw [if_pos h2] at h
    by_cases g2:a2=0
    ·rw [if_pos g2] at h
     by_cases g3:a3=0
     ·rw [if_pos g3] at h
      exact changeOf_text k a0 a1 a2 a3 a4 r w hm g2 g3 h h2 hG
     ·rw [if_neg g3] at h
      simp only [Option.some.injEq] at h
      subst h
      exact changeOf_text_no3 a0 a1 a2 a3 a4 w hm g2 g3 h2 hG
    ·rw [if_neg g2] at h
     simp only [Option.some.injEq] at h
     subst h
     exact changeOf_text_no2 a0 a1 a2 a3 a4 w hm g2 h2 hG
   ·rw [if_neg h2] at h
    by_cases h3:a0=3
    ·rw [if_pos h3] at h
     obtain ⟨p,hp,h⟩:=Option.bind_eq_some_iff.1 h
     cases p with
     | false =>
      simp only [Bool.false_eq_true,if_false,Option.some.injEq] at h
      subst h
      exact changeOf_move_no a0 a1 a2 a3 a4 w hm hp h3 hG
     | true =>
      simp only [if_true,Option.some.injEq] at h
      subst h
      exact changeOf_move a0 a1 a2 a3 a4 w hm hp h3 hG
    ·rw [if_neg h3] at h
     simp only [Option.some.injEq] at h
     subst h
     exact changeOf_kind a0 a1 a2 a3 a4 w hm h1 h2 h3 hG
def impl_OpOk.f (k:Nat) (a0 a1 a2 a3:Int) (a4:ByteArray):Option Bool:=impl_changeOf.f k a0 a1 a2 a3 a4
theorem impl_OpOk.mono (a0 a1 a2 a3:Int) (a4:ByteArray) (k:Nat):LeO (impl_OpOk.f k a0 a1 a2 a3 a4) (impl_OpOk.f (k+1) a0 a1 a2 a3 a4):=impl_changeOf.mono a0 a1 a2 a3 a4 k
theorem impl_OpOk.calls (k:Nat) (a0_0 a0_1 a0_2 a0_3:Int) (a0_4:ByteArray) (r:Bool) (w:World) (h:impl_OpOk.f k a0_0 a0_1 a0_2 a0_3 a0_4=some r) (hG:Glob w) :
  Calls Tryd.prog 116 #[.agg #[.int .i64 a0_0,.int .i64 a0_1,.int .i64 a0_2,.int .i64 a0_3,.string a0_4]] w fun e w'=>e=.returned (.bool r)∧Below w.heap.size w w':=by
 have hGa:Glob (w.alloc (.cells #[.int .i64 a0_0,.int .i64 a0_1,.int .i64 a0_2,.int .i64 a0_3,.string a0_4] 42)):=hG.below (below_box0 w _)
 have HG:=a_ hGa
 have HH:=a_ h
 clear hGa hG h
 have hu:=Tryd.underlying42
 go_enter Tryd.func116,Tryd.ntmps116
 go_wp2_with (go_at_call 92;refine (impl_changeOf.calls k a0_0 a0_1 a0_2 a0_3 a0_4 r _ HH.out HG.out).mono ?_;rintro e w1 ⟨v,rfl,_,hb⟩;have HB:=a_ hb;clear hb)
 go_ret
 exact ⟨rfl,(below_box0 w _).trans (HB.out.mono (by simp))⟩
end Go.Proofs.YtdpklbomhdpimaaDoor.P
namespace Go.Proofs.YtdpklbomhdpimaaDoor.P
open Go.RowKit Go.Proofs.YtdpklbomhdpimaaDoorW.PrintWords Go.Proofs.YtdpklbomhdpimaaDoorW.PrintLast
def impl_EntryOk.f (k:Nat) (a0_0:Int) (a0_1:Int) (a0_2:Int) (a0_3:Int) (a0_4:Int) (a0_5:Int) (a0_6:ByteArray):Option (Bool):=(impl_whoOk.f a0_0).bind fun t405=>(if t405=true then (if a0_1 < 1 then (some false) else (if a0_1 > 40 then (some false) else ((impl_OpOk.f k a0_2 a0_3 a0_4 a0_5 a0_6).bind fun t406=>(if t406=true then ((impl_RowWho.f a0_3).bind fun bt407=>(if a0_2=1 then (some (bt407.1==a0_0)) else (some true))) else (some false))))) else (some false))
theorem impl_EntryOk.mono:∀ a0 a1 a2 a3 a4 a5 a6 k,LeO (impl_EntryOk.f k a0 a1 a2 a3 a4 a5 a6) (impl_EntryOk.f (k+1) a0 a1 a2 a3 a4 a5 a6):=by
 intro a0 a1 a2 a3 a4 a5 a6 k
 unfold impl_EntryOk.f
 repeat' first
   | (with_reducible exact impl_OpOk.mono _ _ _ _ _ _)
   | (with_reducible exact LeO.refl _)
   | (with_reducible exact LeO.none _)
   | (with_reducible refine LeO.ite ?_ ?_)
   | (with_reducible refine LeO.bind ?_ (fun _=>?_))
theorem impl_EntryOk.calls (k:Nat) (a0_0:Int) (a0_1:Int) (a0_2:Int) (a0_3:Int) (a0_4:Int) (a0_5:Int) (a0_6:ByteArray) (r:Bool) (w:World) (h:impl_EntryOk.f k a0_0 a0_1 a0_2 a0_3 a0_4 a0_5 a0_6=some r) (hG:Glob w) :
  Calls Tryd.prog 78 #[.agg #[.int .i64 a0_0,.int .i64 a0_1,.int .i64 a0_2,.int .i64 a0_3,.int .i64 a0_4,.int .i64 a0_5,.string a0_6]] w fun e w'=>e=.returned (.bool r)∧Below w.heap.size w w':=by
 have hu44:=Tryd.underlying44
 have hu42:=Tryd.underlying42
 have HB:=a_ (Below.refl w.heap.size w)
 have HG:=a_ hG
 clear hG
 unfold impl_EntryOk.f at h
 have H:=h
 clear h
 replace H:=bs_ H
 obtain ⟨t405,A20,H⟩:=H
 try dsimp only at H
 have A2:=a_ A20
 clear A20
 by_cases c3:t405=true
 ·subst c3
  have H1:(if a0_1 < 1 then (some false) else (if a0_1 > 40 then (some false) else ((impl_OpOk.f k a0_2 a0_3 a0_4 a0_5 a0_6).bind fun t406=>(if t406=true then ((impl_RowWho.f a0_3).bind fun bt407=>(if a0_2=1 then (some (bt407.1==a0_0)) else (some true))) else (some false)))))=some r:=by rw [if_pos rfl] at H;exact H
  clear H
  have H:=H1
  clear H1
  by_cases c4:a0_1 < 1
  ·rw [if_pos c4] at H
   have c4b0:decide (a0_1 < 1)=true:=dt_ c4
   clear c4
   obtain rfl:=sj_ H
   go_enter Tryd.func78,Tryd.ntmps78
   go_wp2_with (first|((with_reducible refine gD_ (N:=1) rfl ?_);refine bx_ 1 (#[.int .i64 a0_0,.int .i64 a0_1,.int .i64 a0_2,.int .i64 a0_3,.int .i64 a0_4,.int .i64 a0_5,.string a0_6]) 44 ?_;intro gb404 hg w5 hbox hb;have n0_:=a_ (bS_ (bel_) hb);have n1_:=a_ (hbox);have n2_:=a_ ((by rw [hg];exact (below_size (bel_)):w.heap.size≤gb404));have n3_:=a_ ((by rw [hg];exact (below_size (bel_)):w.heap.size≤gb404));clear HB;have HB:=n0_;have BK404:=n1_;have GW404:=n2_;have GE404:=n3_;clear n0_ n1_ n2_ n3_;clear hb hbox hg;obtain ⟨Z6_0,Z6_1,Z6_2,Z6_3,Z6_4,Z6_5,Z6_6,Y6_0,Y6_1,Y6_2,Y6_3,Y6_4,Y6_5,Y6_6⟩:=op7_ BK404.out)|((with_reducible refine gC_ (f:=104) rfl ?_);refine gl_ 7 Tryd.func104 #[.int .i64 a0_0] ?_;(with_reducible refine (impl_whoOk.calls a0_0 true _ A2.out).mono ?_);rintro e w' ⟨rfl,⟨nd,rfl⟩⟩;refine ⟨_,rfl,?_⟩))
   go_ret
   exact ⟨fi_,bel_⟩
  ·rw [if_neg c4] at H
   have c4b0:decide (a0_1 < 1)=false:=df_ c4
   clear c4
   by_cases c7:a0_1 > 40
   ·rw [if_pos c7] at H
    have c7b0:decide (40 < a0_1)=true:=dt_ c7
    clear c7
    obtain rfl:=sj_ H
    go_enter Tryd.func78,Tryd.ntmps78
    go_wp2_with (first|((with_reducible refine gD_ (N:=1) rfl ?_);refine bx_ 1 (#[.int .i64 a0_0,.int .i64 a0_1,.int .i64 a0_2,.int .i64 a0_3,.int .i64 a0_4,.int .i64 a0_5,.string a0_6]) 44 ?_;intro gb404 hg w8 hbox hb;have n0_:=a_ (bS_ (bel_) hb);have n1_:=a_ (hbox);have n2_:=a_ ((by rw [hg];exact (below_size (bel_)):w.heap.size≤gb404));have n3_:=a_ ((by rw [hg];exact (below_size (bel_)):w.heap.size≤gb404));clear HB;have HB:=n0_;have BK404:=n1_;have GW404:=n2_;have GE404:=n3_;clear n0_ n1_ n2_ n3_;clear hb hbox hg;obtain ⟨Z9_0,Z9_1,Z9_2,Z9_3,Z9_4,Z9_5,Z9_6,Y9_0,Y9_1,Y9_2,Y9_3,Y9_4,Y9_5,Y9_6⟩:=op7_ BK404.out)|((with_reducible refine gC_ (f:=104) rfl ?_);refine gl_ 7 Tryd.func104 #[.int .i64 a0_0] ?_;(with_reducible refine (impl_whoOk.calls a0_0 true _ A2.out).mono ?_);rintro e w' ⟨rfl,⟨nd,rfl⟩⟩;refine ⟨_,rfl,?_⟩))
    go_ret
    exact ⟨fi_,bel_⟩
   ·rw [if_neg c7] at H
    have c7b0:decide (40 < a0_1)=false:=df_ c7
    clear c7
    replace H:=bs_ H
    obtain ⟨t406,A100,H⟩:=H
    try dsimp only at H
    have A10:=a_ A100
    clear A100
    by_cases c11:t406=true
    ·subst c11
     have H1:((impl_RowWho.f a0_3).bind fun bt407=>(if a0_2=1 then (some (bt407.1==a0_0)) else (some true)))=some r:=by rw [if_pos rfl] at H;exact H
     clear H
     have H:=H1
     clear H1
     replace H:=bs_ H
     obtain ⟨⟨t407,t408⟩,A120,H⟩:=H
     try dsimp only at H
     have A12:=a_ A120
     clear A120
     by_cases c13:a0_2=1
     ·rw [if_pos c13] at H
      have c13b0:(a0_2==1)=true:=beq_iff_eq.mpr c13
      have c13b1:(a0_2 != 1)=false:=be_ c13
      clear c13
      obtain rfl:=sj_ H
      go_enter Tryd.func78,Tryd.ntmps78
      go_wp2_with (first|((with_reducible refine gD_ (N:=1) rfl ?_);refine bx_ 1 (#[.int .i64 a0_0,.int .i64 a0_1,.int .i64 a0_2,.int .i64 a0_3,.int .i64 a0_4,.int .i64 a0_5,.string a0_6]) 44 ?_;intro gb404 hg w14 hbox hb;have n0_:=a_ (bS_ (bel_) hb);have n1_:=a_ (hbox);have n2_:=a_ ((by rw [hg];exact (below_size (bel_)):w.heap.size≤gb404));have n3_:=a_ ((by rw [hg];exact (below_size (bel_)):w.heap.size≤gb404));clear HB;have HB:=n0_;have BK404:=n1_;have GW404:=n2_;have GE404:=n3_;clear n0_ n1_ n2_ n3_;clear hb hbox hg;obtain ⟨Z15_0,Z15_1,Z15_2,Z15_3,Z15_4,Z15_5,Z15_6,Y15_0,Y15_1,Y15_2,Y15_3,Y15_4,Y15_5,Y15_6⟩:=op7_ BK404.out)|((with_reducible refine gC_ (f:=104) rfl ?_);refine gl_ 7 Tryd.func104 #[.int .i64 a0_0] ?_;(with_reducible refine (impl_whoOk.calls a0_0 true _ A2.out).mono ?_);rintro e w' ⟨rfl,⟨nd,rfl⟩⟩;refine ⟨_,rfl,?_⟩)|(go_at_call 116;(with_reducible refine (impl_OpOk.calls k a0_2 a0_3 a0_4 a0_5 a0_6 true _ A10.out ?side1).mono ?_);(case side1=>exact Glob.below HG.out (bel_));rintro e w16 ⟨rfl,hb⟩;replace HB:=a_ (bS_ (bel_) hb);replace BK404:=a_ (bb_ BK404.out hb);(try clear hb);obtain ⟨Z17_0,Z17_1,Z17_2,Z17_3,Z17_4,Z17_5,Z17_6,Y17_0,Y17_1,Y17_2,Y17_3,Y17_4,Y17_5,Y17_6⟩:=op7_ BK404.out)|((with_reducible refine gC_ (f:=117) rfl ?_);refine gl_ 29 Tryd.func117 #[.int .i64 a0_3] ?_;(with_reducible refine (impl_RowWho.calls a0_3 t407 t408 _ A12.out ?side1).mono ?_);(case side1=>exact Glob.below HG.out (bel_));rintro e w' ⟨rfl,⟨nd,rfl⟩⟩;refine ⟨_,rfl,?_⟩))
      go_ret
      exact ⟨fi_,bel_⟩
     ·rw [if_neg c13] at H
      have c13b0:(a0_2==1)=false:=bn_ c13
      have c13b1:(a0_2 != 1)=true:=bne_iff_ne.mpr c13
      obtain rfl:=sj_ H
      go_enter Tryd.func78,Tryd.ntmps78
      go_wp2_with (first|((with_reducible refine gD_ (N:=1) rfl ?_);refine bx_ 1 (#[.int .i64 a0_0,.int .i64 a0_1,.int .i64 a0_2,.int .i64 a0_3,.int .i64 a0_4,.int .i64 a0_5,.string a0_6]) 44 ?_;intro gb404 hg w18 hbox hb;have n0_:=a_ (bS_ (bel_) hb);have n1_:=a_ (hbox);have n2_:=a_ ((by rw [hg];exact (below_size (bel_)):w.heap.size≤gb404));have n3_:=a_ ((by rw [hg];exact (below_size (bel_)):w.heap.size≤gb404));clear HB;have HB:=n0_;have BK404:=n1_;have GW404:=n2_;have GE404:=n3_;clear n0_ n1_ n2_ n3_;clear hb hbox hg;obtain ⟨Z19_0,Z19_1,Z19_2,Z19_3,Z19_4,Z19_5,Z19_6,Y19_0,Y19_1,Y19_2,Y19_3,Y19_4,Y19_5,Y19_6⟩:=op7_ BK404.out)|((with_reducible refine gC_ (f:=104) rfl ?_);refine gl_ 7 Tryd.func104 #[.int .i64 a0_0] ?_;(with_reducible refine (impl_whoOk.calls a0_0 true _ A2.out).mono ?_);rintro e w' ⟨rfl,⟨nd,rfl⟩⟩;refine ⟨_,rfl,?_⟩)|(go_at_call 116;(with_reducible refine (impl_OpOk.calls k a0_2 a0_3 a0_4 a0_5 a0_6 true _ A10.out ?side1).mono ?_);(case side1=>exact Glob.below HG.out (bel_));rintro e w20 ⟨rfl,hb⟩;replace HB:=a_ (bS_ (bel_) hb);replace BK404:=a_ (bb_ BK404.out hb);(try clear hb);obtain ⟨Z21_0,Z21_1,Z21_2,Z21_3,Z21_4,Z21_5,Z21_6,Y21_0,Y21_1,Y21_2,Y21_3,Y21_4,Y21_5,Y21_6⟩:=op7_ BK404.out)|((with_reducible refine gC_ (f:=117) rfl ?_);refine gl_ 29 Tryd.func117 #[.int .i64 a0_3] ?_;(with_reducible refine (impl_RowWho.calls a0_3 t407 t408 _ A12.out ?side1).mono ?_);(case side1=>exact Glob.below HG.out (bel_));rintro e w' ⟨rfl,⟨nd,rfl⟩⟩;refine ⟨_,rfl,?_⟩))
      go_ret
      exact ⟨fi_,bel_⟩
    ·replace c11:=Bool.eq_false_iff.mpr c11
     subst c11
     have H1:(some false)=some r:=by rw [if_neg (show ¬ (false=true) by decide)] at H;exact H
     clear H
     have H:=H1
     clear H1
     obtain rfl:=sj_ H
     go_enter Tryd.func78,Tryd.ntmps78
     go_wp2_with (first|((with_reducible refine gD_ (N:=1) rfl ?_);refine bx_ 1 (#[.int .i64 a0_0,.int .i64 a0_1,.int .i64 a0_2,.int .i64 a0_3,.int .i64 a0_4,.int .i64 a0_5,.string a0_6]) 44 ?_;intro gb404 hg w22 hbox hb;have n0_:=a_ (bS_ (bel_) hb);have n1_:=a_ (hbox);have n2_:=a_ ((by rw [hg];exact (below_size (bel_)):w.heap.size≤gb404));have n3_:=a_ ((by rw [hg];exact (below_size (bel_)):w.heap.size≤gb404));clear HB;have HB:=n0_;have BK404:=n1_;have GW404:=n2_;have GE404:=n3_;clear n0_ n1_ n2_ n3_;clear hb hbox hg;obtain ⟨Z23_0,Z23_1,Z23_2,Z23_3,Z23_4,Z23_5,Z23_6,Y23_0,Y23_1,Y23_2,Y23_3,Y23_4,Y23_5,Y23_6⟩:=op7_ BK404.out)|((with_reducible refine gC_ (f:=104) rfl ?_);refine gl_ 7 Tryd.func104 #[.int .i64 a0_0] ?_;(with_reducible refine (impl_whoOk.calls a0_0 true _ A2.out).mono ?_);rintro e w' ⟨rfl,⟨nd,rfl⟩⟩;refine ⟨_,rfl,?_⟩)|(go_at_call 116;(with_reducible refine (impl_OpOk.calls k a0_2 a0_3 a0_4 a0_5 a0_6 false _ A10.out ?side1).mono ?_);(case side1=>exact Glob.below HG.out (bel_));rintro e w24 ⟨rfl,hb⟩;replace HB:=a_ (bS_ (bel_) hb);replace BK404:=a_ (bb_ BK404.out hb);(try clear hb)))
     go_ret
     exact ⟨fi_,bel_⟩
 ·replace c3:=Bool.eq_false_iff.mpr c3
  subst c3
  have H1:(some false)=some r:=by rw [if_neg (show ¬ (false=true) by decide)] at H;exact H
  clear H
  have H:=H1
  clear H1
  obtain rfl:=sj_ H
  go_enter Tryd.func78,Tryd.ntmps78
  go_wp2_with (first|((with_reducible refine gD_ (N:=1) rfl ?_);refine bx_ 1 (#[.int .i64 a0_0,.int .i64 a0_1,.int .i64 a0_2,.int .i64 a0_3,.int .i64 a0_4,.int .i64 a0_5,.string a0_6]) 44 ?_;intro gb404 hg w25 hbox hb;have n0_:=a_ (bS_ (bel_) hb);have n1_:=a_ (hbox);have n2_:=a_ ((by rw [hg];exact (below_size (bel_)):w.heap.size≤gb404));have n3_:=a_ ((by rw [hg];exact (below_size (bel_)):w.heap.size≤gb404));clear HB;have HB:=n0_;have BK404:=n1_;have GW404:=n2_;have GE404:=n3_;clear n0_ n1_ n2_ n3_;clear hb hbox hg;obtain ⟨Z26_0,Z26_1,Z26_2,Z26_3,Z26_4,Z26_5,Z26_6,Y26_0,Y26_1,Y26_2,Y26_3,Y26_4,Y26_5,Y26_6⟩:=op7_ BK404.out)|((with_reducible refine gC_ (f:=104) rfl ?_);refine gl_ 7 Tryd.func104 #[.int .i64 a0_0] ?_;(with_reducible refine (impl_whoOk.calls a0_0 false _ A2.out).mono ?_);rintro e w' ⟨rfl,⟨nd,rfl⟩⟩;refine ⟨_,rfl,?_⟩))
  go_ret
  exact ⟨fi_,bel_⟩


end Go.Proofs.YtdpklbomhdpimaaDoor.P
namespace Go.Proofs.YtdpklbomhdpimaaDoor.P
open Go.RowKit Go.Maps Go.Proofs.YtdpklbomhdpimaaDoorW.PrintWords Go.Proofs.YtdpklbomhdpimaaDoorW.PrintLast Go.Proofs.YtdpklbomhdpimaaDoorW.PrintMore
theorem wf_small (x:Int) (h:-1000000≤x∧x≤1000000):(Lit.int .i64 x).wf=true:=by
 have e:wrap64 x=x:=by unfold wrap64;omega
 rw [←e]
 exact wrap64_wf _
theorem keyI:Keyed Tryd.prog 3:=int_keyed Tryd.underlying3
theorem zeroI (w:World):(zeroValue 3).run Tryd.prog w=.ok (.int .i64 0) w:=by kernel_rfl
def CntMap (w:World) (b:Nat) (c:Int→Int) (n:Nat):Prop :=
 ∃ D:DataW Unit,w.ownsMap Tryd.prog 3 (plainElem Tryd.prog 3) b n D∧∀ x,D.atKey (.int .i64 x) (.lit (.int .i64 0))=.lit (.int .i64 (c x))
def upd (c:Int→Int) (x:Int):Int→Int:=fun y=>if y=x then c x+1 else c y
theorem CntMap.alloc {w:World} {b:Nat} {c:Int→Int} {n:Nat} (h:CntMap w b c n) (o:Obj):CntMap (w.alloc o) b c n:=by
 obtain ⟨D,h1,h2⟩:=h
 exact ⟨D,h1.alloc o,h2⟩
theorem CntMap.drew {w:World} {b:Nat} {c:Int→Int} {n:Nat} (h:CntMap w b c n):CntMap w.drew b c n:=by
 obtain ⟨D,h1,h2⟩:=h
 exact ⟨D,h1.drew,h2⟩
theorem CntMap.grown {w w':World} {b:Nat} {c:Int→Int} {n:Nat} {row:Option Nat} (h:CntMap w b c n) (hg:w.grownBy w' row) (hne:some b≠row):CntMap w' b c n:=by
 obtain ⟨D,h1,h2⟩:=h
 exact ⟨D,h1.kept hg hne,h2⟩
theorem CntMap.below {w w':World} {b:Nat} {c:Int→Int} {n:Nat} (h:CntMap w b c n) (hb:Below w.heap.size w w'):CntMap w' b c n:=by
 obtain ⟨D,h1,h2⟩:=h
 refine ⟨D,?_,h2⟩
 have hl:=h1.lt
 obtain ⟨es,clock,e1,e2,e3,e4⟩:=h1
 exact ⟨es,clock,(hb.block b hl).trans e1,e2,e3,e4⟩
def AddPost (w:World) (b:Nat) (c:Int→Int) (x:Int) (n:Nat) (e:Ending) (w':World):Prop:=e=.returned (.int .i64 (c x+1))∧CntMap w' b (upd c x) (n+1)∧w.grownBy w' (some b)
theorem add_any (b:Nat) (c:Int→Int) (x:Int) (n:Nat) (w:World) (hx:0≤x∧x≤4) (hc:0≤c x∧c x≤1000) (hn:n≤1000) (hM:CntMap w b c n) :
  Calls Tryd.prog 87 #[.map (some b),.int .i64 x] w (AddPost w b c x n):=by
 obtain ⟨D,hown,hat⟩:=hM
 have hkey:keyOf Tryd.prog 3 (.int .i64 x)=some (.int .i64 x):=keyOf_int_mk Tryd.underlying3 (wf_small x (by omega))
 have HAT:=a_ (hat x)
 have HATS:=a_ hat
 clear hat
 have hwf:(Lit.int .i64 (c x+1)).wf=true:=wf_small _ (by omega)
 have HC:=a_ hc
 clear hc
 go_enter Tryd.func87,Tryd.ntmps87
 go_wp2_with (first
  | (at_lookup;refine wpList_lookup_own_int _ rfl (.tmp 5) (.tmp 6) 114 rfl 3 3 .i64 keyI Tryd.underlying114 Tryd.underlying3 (zeroI _) b n D rfl hown _ _ rfl hkey ?_;intro z hz hwz;have ez:z=c x:=(by have:=HAT.out.symm.trans hz;injection this with this;injection this with _ this;exact this.symm);subst ez;clear hz hwz;have hcb:=HC.out)
  | (at_mapUpdate;refine wpList_mapUpdate_own _ rfl _ _ _ 114 rfl 3 3 keyI Tryd.underlying114 _ b n D rfl hown (by unfold maxLen;omega) _ _ _ rfl rfl hkey _ [] (plainElem_int Tryd.underlying3 hwf) ?_;intro w1 hown1 hgrow1;have HG1:=a_ hgrow1;clear hgrow1;have HAT1:=a_ (atKey_put_same hown.isMap (k:=.int .i64 x) trivial (.lit (.int .i64 (c x+1))) (.lit (.int .i64 0))))
  | (at_lookup;refine wpList_lookup_own_int _ rfl (.tmp 9) (.tmp 10) 114 rfl 3 3 .i64 keyI Tryd.underlying114 Tryd.underlying3 (zeroI _) b (n+1) _ rfl hown1 _ _ rfl hkey ?_;intro z hz hwz;have ez:z=c x+1:=(by have:=HAT1.out.symm.trans hz;injection this with this;injection this with _ this;exact this.symm);subst ez;clear hz hwz))
 go_ret
 refine ⟨rfl,⟨_,hown1,fun y=>?_⟩,HG1.out⟩
 unfold upd
 by_cases hy:y=x
 ·rw [if_pos hy,hy]
  exact HAT1.out
 ·rw [if_neg hy,atKey_put_other (by intro e;injection e with _ e;exact hy e),HATS.out]
def cntE (l:List S44) (who:Int):Int:=(l.countP fun e=>e.f0==who:Nat)
theorem cntE_snoc (l:List S44) (e:S44):cntE (l++[e])=upd (cntE l) e.f0:=by
 funext y
 unfold cntE upd
 rw [List.countP_append]
 by_cases h:y=e.f0
 ·subst h
  simp
 ·have h':(e.f0==y)=false:=beq_eq_false_iff_ne.2 (fun q=>h q.symm)
  rw [if_neg h]
  simp [h']
theorem cntE_le (l:List S44) (who:Int):0≤cntE l who∧cntE l who≤l.length:=by
 unfold cntE
 have:=List.countP_le_length (p:=fun e:S44=>e.f0==who) (l:=l)
 omega
def impl_LogOk.go (k:Nat):List S44→List S44→Option Bool
 | _,[]=>some true
 | pre,e::rest=>(impl_EntryOk.f k e.f0 e.f1 e.f2.f0 e.f2.f1 e.f2.f2 e.f2.f3 e.f2.f4).bind fun t =>
   if t=true then (if cntE pre e.f0+1=e.f1 then impl_LogOk.go k (pre++[e]) rest else some false) else some false
def impl_LogOk.f (k:Nat) (l0:List S44):Option Bool:=if (l0.length:Int) > 40 then some false else impl_LogOk.go k [] l0
theorem impl_LogOk.mono_go (k:Nat):∀ (rest pre:List S44),LeO (impl_LogOk.go k pre rest) (impl_LogOk.go (k+1) pre rest)
 | [],_=>LeO.refl _
 | e::rest,pre=>by
  unfold impl_LogOk.go
  exact LeO.bind (impl_EntryOk.mono _ _ _ _ _ _ _ _) (fun _=>LeO.ite (LeO.ite (impl_LogOk.mono_go k rest _) (LeO.refl _)) (LeO.refl _))
theorem impl_LogOk.mono (l0:List S44) (k:Nat):LeO (impl_LogOk.f k l0) (impl_LogOk.f (k+1) l0):=by
 unfold impl_LogOk.f
 exact LeO.ite (LeO.refl _) (impl_LogOk.mono_go k _ _)
theorem entry_who {k:Nat} {a0 a1 a2 a3 a4 a5:Int} {a6:ByteArray} (h:impl_EntryOk.f k a0 a1 a2 a3 a4 a5 a6=some true):1≤a0∧a0≤3:=by
 unfold impl_EntryOk.f at h
 obtain ⟨t,ht,h⟩:=Option.bind_eq_some_iff.1 h
 cases t with
 | false=>simp at h
 | true =>
  unfold impl_whoOk.f at ht
  by_cases h1:a0≥1
  ·rw [if_pos h1] at ht
   exact ⟨h1,of_decide_eq_true (sj_ ht)⟩
  ·rw [if_neg h1] at ht
   cases ht
def LogRel (k:Nat) (l0:List S44) (r:Bool) (w:World) (i:Value) (wr:World):Prop :=
 ∃ j:Int,0≤j∧j≤l0.length∧i=.int .i64 j∧impl_LogOk.go k (l0.take j.toNat) (l0.drop j.toNat)=some r∧CntMap wr w.heap.size (cntE (l0.take j.toNat)) j.toNat∧Below w.heap.size w wr
theorem impl_LogOk.calls (k:Nat) (A0:Option Addr) (c0:Nat) (l0:List S44) (r:Bool) (w:World) (hr0:Kd.C k44 w A0 l0.length l0) (hc0:l0.length≤c0) (h:impl_LogOk.f k l0=some r) (hG:Glob w) :
  Calls Tryd.prog 42 #[.slice A0 l0.length c0] w fun e w'=>e=.returned (.bool r)∧Below w.heap.size w w':=by
 have HR0:=a_ hr0
 have HG:=a_ hG
 clear hr0 hG
 unfold impl_LogOk.f at h
 have hmm:=@run_makeMap Tryd.prog
 by_cases h40:(l0.length:Int) > 40
 ·rw [if_pos h40] at h
  obtain rfl:=sj_ h
  clear h hmm
  have hd:decide (40 < l0.length)=true:=dt_ (by omega)
  go_enter Tryd.func42,Tryd.ntmps42
  go_wp2
  go_ret
  exact ⟨rfl,Below.refl _ _⟩
 ·rw [if_neg h40] at h
  have HH:=a_ h
  clear h
  have hd:decide (40 < l0.length)=false:=df_ (by omega)
  have hlen:l0.length≤40:=by omega
  go_enter Tryd.func42,Tryd.ntmps42
  go_wp2
  have hM0:CntMap (w.alloc (.map #[] 0)) w.heap.size (cntE []) 0:=⟨.map [],World.ownsMap_made _ _ _ _,fun x=>rfl⟩
  have HM0:=a_ hM0
  clear hM0
  go_loopw [12] (fun i wr=>LogRel k l0 r w i wr) (fun i _=>l0.length - (intOf i).toNat)
  case atStart=>exact ⟨0,Int.le_refl _,by omega,rfl,HH.out,HM0.out,below_box0 w _⟩
  case round =>
   obtain ⟨j,hj0,hj,rfl,hgo,hM,hB⟩:=hrel
   have HM:=a_ hM
   have HB:=a_ hB
   have HGO:=a_ hgo
   clear hM hB hgo HH HM0
   by_cases hlt:j < l0.length
   ·have hd1:decide (j < (l0.length:Int))=true:=dt_ hlt
    obtain ⟨ad,e,hx0,hx1,hx2,hx3,hx4,hx5,hx6⟩:=at_T44 HR0.out j hj0 hlt
    cases e
    replace hx0:=(cb_ HB.out hx0 :)
    replace hx1:=(cb_ HB.out hx1 :)
    replace hx2:=(cb_ HB.out hx2 :)
    replace hx3:=(cb_ HB.out hx3 :)
    replace hx4:=(cb_ HB.out hx4 :)
    replace hx5:=(cb_ HB.out hx5 :)
    replace hx6:=(cb_ HB.out hx6 :)
    have hu:=Tryd.underlying44
    have hxe:rd_T44 l0 j=l0[j.toNat]'(by omega):=by
     unfold rd_T44
     rw [List.getD_eq_getElem?_getD,List.getElem?_eq_getElem (by omega)]
     rfl
    have htd:=List.drop_eq_getElem_cons (l:=l0) (i:=j.toNat) (by omega)
    have htk:=List.take_succ_eq_append_getElem (l:=l0) (i:=j.toNat) (by omega)
    rw [←hxe] at htd htk
    have hgo:=HGO.out
    rw [htd] at hgo
    clear HGO hxe
    generalize rd_T44 l0 j=x at hx0 hx1 hx2 hx3 hx4 hx5 hx6 htd htk hgo
    rw [show j.toNat+1=(j+1).toNat by omega] at htd htk hgo
    unfold impl_LogOk.go at hgo
    have hjb:j≤40:=by omega
    have p1:=eq_true hj0
    have q1:=eq_true hlt
    have hM1:=HM.out.alloc (.cells #[.int .i64 x.f0,.int .i64 x.f1,.int .i64 x.f2.f0,.int .i64 x.f2.f1,.int .i64 x.f2.f2,.int .i64 x.f2.f3,.string x.f2.f4] 44)
    have hcn:=cntE_le (l0.take j.toNat) x.f0
    have hcl:(l0.take j.toNat).length≤40:=by rw [List.length_take];omega
    have hsn:=cntE_snoc (l0.take j.toNat) x
    rw [←htk] at hsn
    rw [←htk] at hgo
    have HM1:=a_ hM1
    have HSN:=a_ hsn
    have HGO:=a_ hgo
    have HTD:=a_ htd
    have HCN:=a_ hcn
    have HCL:=a_ hcl
    have HJN:=a_ (show j.toNat≤1000∧0≤j∧j < l0.length from ⟨by omega,hj0,hlt⟩)
    have HB0:=HB
    have HL:=a_ (show w.heap.size < wr.heap.size from by obtain ⟨D,h1,_⟩:=HM.out;exact h1.lt)
    have HB1:=a_ (wA_ HB.out (.cells #[.int .i64 x.f0,.int .i64 x.f1,.int .i64 x.f2.f0,.int .i64 x.f2.f1,.int .i64 x.f2.f2,.int .i64 x.f2.f3,.string x.f2.f4] 44))
    clear hj0 hlt hM1 hcn hcl htd htk hsn hgo HM HB
    go_wp2
    have hwr:w.heap.size≤wr.heap.size∧w.heap.size < wr.heap.size:=by
     obtain ⟨D,h1,_⟩:=HM1.out
     have h2:=HB0.out.size
     exact ⟨h2,HL.out⟩
    have HW:=a_ hwr
    clear hwr
    obtain ⟨W1,hW1⟩:∃ W1,W1=wr.alloc (.cells #[.int .i64 x.f0,.int .i64 x.f1,.int .i64 x.f2.f0,.int .i64 x.f2.f1,.int .i64 x.f2.f2,.int .i64 x.f2.f3,.string x.f2.f4] 44):=⟨_,rfl⟩
    have hn0:W1.heap[wr.heap.size]?=some (.cells #[.int .i64 x.f0,.int .i64 x.f1,.int .i64 x.f2.f0,.int .i64 x.f2.f1,.int .i64 x.f2.f2,.int .i64 x.f2.f3,.string x.f2.f4] 44 (0,0)):=by rw [hW1];simpa using heap_alloc_new wr _
    have HN0:=a_ hn0
    rw [←hW1] at HM1 HB1 ⊢
    clear hW1 hx0 hx1 hx2 hx3 hx4 hx5 hx6 hn0
    generalize wr.heap.size=g at HN0 HW ⊢
    have hc0:W1.cell? ⟨g,0,none⟩=some (.int .i64 x.f0):=(bC_ HN0.out 0).trans rfl
    have hc1:W1.cell? ⟨g,1,none⟩=some (.int .i64 x.f1):=(bC_ HN0.out 1).trans rfl
    have hc2:W1.cell? ⟨g,2,none⟩=some (.int .i64 x.f2.f0):=(bC_ HN0.out 2).trans rfl
    have hc3:W1.cell? ⟨g,3,none⟩=some (.int .i64 x.f2.f1):=(bC_ HN0.out 3).trans rfl
    have hc4:W1.cell? ⟨g,4,none⟩=some (.int .i64 x.f2.f2):=(bC_ HN0.out 4).trans rfl
    have hc5:W1.cell? ⟨g,5,none⟩=some (.int .i64 x.f2.f3):=(bC_ HN0.out 5).trans rfl
    have hc6:W1.cell? ⟨g,6,none⟩=some (.string x.f2.f4):=(bC_ HN0.out 6).trans rfl
    have hgo:=HGO.out
    clear HGO
    obtain ⟨t,ht,hgo⟩:=Option.bind_eq_some_iff.1 hgo
    have HT:=a_ ht
    clear ht
    have HBd:=a_ (below_drew1 HB1.out)
    have HGd:=a_ (HG.out.below HBd.out)
    have HMd:=a_ HM1.out.drew
    have HNd:=a_ (bD_ HN0.out)
    have hwho:=fun (e:t=true)=>entry_who (k:=k) (e ▸ HT.out)
    clear HB1 HM1 HN0
    cases t with
    | false =>
     simp only [Bool.false_eq_true,if_false,Option.some.injEq] at hgo
     subst hgo
     clear hwho
     refine start_ (n:=12) (S:=fun w'=>w'.cell? ⟨g,0,none⟩=some (.int .i64 x.f0)∧w'.cell? ⟨g,1,none⟩=some (.int .i64 x.f1)∧w'.cell? ⟨g,2,none⟩=some (.int .i64 x.f2.f0)∧w'.cell? ⟨g,3,none⟩=some (.int .i64 x.f2.f1)∧w'.cell? ⟨g,4,none⟩=some (.int .i64 x.f2.f2)∧w'.cell? ⟨g,5,none⟩=some (.int .i64 x.f2.f3)∧w'.cell? ⟨g,6,none⟩=some (.string x.f2.f4)) (ds:=[]) #[false,false,false,false,false,false,false,false,false,false,false,false] (by kernel_rfl) rfl rfl ⟨(bC_ HNd.out 0).trans rfl,(bC_ HNd.out 1).trans rfl,(bC_ HNd.out 2).trans rfl,(bC_ HNd.out 3).trans rfl,(bC_ HNd.out 4).trans rfl,(bC_ HNd.out 5).trans rfl,(bC_ HNd.out 6).trans rfl⟩ (fun hHeld=>?_)
     refine take_ (i:=0) (N:=some 16) (v:=?_) (a':=?_) #[true,false,false,false,false,false,false,false,false,false,false,false] rfl rfl (by kernel_rfl) (fun _ _ _ h=>h) (Or.inl ⟨by rfl,?_⟩) hHeld ?_ ?_
     rotate_left
     ·rintro w' ⟨s0,s1,s2,s3,s4,s5,s6⟩
      go_simp
      with_reducible rfl
     rotate_left
     ·simp only [Act.put,List.setIfInBounds_toArray,List.set_cons_zero,List.set_cons_succ,i64_w,i32_w]
      rfl
     refine one_ (i:=1) (N:=some 17) #[true,true,false,false,false,false,false,false,false,false,false,false] rfl rfl (by kernel_rfl) (by decide) (fun K hK=>?_)
     refine goes_ Tryd.func78 (by kernel_rfl) rfl #[.agg #[.int .i64 x.f0,.int .i64 x.f1,.int .i64 x.f2.f0,.int .i64 x.f2.f1,.int .i64 x.f2.f2,.int .i64 x.f2.f3,.string x.f2.f4]] (by rfl) rfl rfl (by (try simp only [List.map_toArray,List.map_cons,List.map_nil]);first|done|rfl) ?_
     with_reducible refine (impl_EntryOk.calls k x.f0 x.f1 x.f2.f0 x.f2.f1 x.f2.f2 x.f2.f3 x.f2.f4 false _ HT.out HGd.out).mono ?_
     rintro e w2 ⟨rfl,hb⟩
     refine ⟨_,rfl,?_⟩
     have HB2:=a_ (bS_ HBd.out hb)
     have HN2:=a_ (blk_below HNd.out hb)
     clear hb
     refine hK.out _ _ ⟨(bC_ HN2.out 0).trans rfl,(bC_ HN2.out 1).trans rfl,(bC_ HN2.out 2).trans rfl,(bC_ HN2.out 3).trans rfl,(bC_ HN2.out 4).trans rfl,(bC_ HN2.out 5).trans rfl,(bC_ HN2.out 6).trans rfl⟩ (fun hHeld2=>?_)
     clear hK K
     refine no_ 17 ?_
     refine pure_ (i:=2) (N:=some 18) (v:=?_) (a':=?_) #[true,true,true,false,false,false,false,false,false,false,false,false] rfl rfl (by kernel_rfl) (fun _ _ _ h=>h) (Or.inl ⟨by rfl,?_⟩) ?_ ?_
     rotate_left
     ·intro w'
      go_simp
      with_reducible rfl
     rotate_left
     ·simp only [Act.put,List.setIfInBounds_toArray,List.set_cons_zero,List.set_cons_succ,i64_w,i32_w]
      rfl
     refine pure_ (i:=3) (N:=some 19) (v:=?_) (a':=?_) #[true,true,true,true,false,false,false,false,false,false,false,false] rfl rfl (by kernel_rfl) (fun _ _ _ h=>h) (Or.inl ⟨by rfl,?_⟩) ?_ ?_
     rotate_left
     ·intro w'
      go_simp
      with_reducible rfl
     rotate_left
     ·simp only [Act.put,List.setIfInBounds_toArray,List.set_cons_zero,List.set_cons_succ,i64_w,i32_w]
      rfl
     refine pure_ (i:=4) (N:=some 20) (v:=undef) (a':=?_) #[true,true,true,true,true,false,false,false,false,false,false,false] rfl rfl (by kernel_rfl) (fun _ _ _ h=>h) (Or.inr ⟨by rfl,rfl⟩) ?_ ?_
     rotate_left
     ·simp only [Act.put,List.setIfInBounds_toArray,List.set_cons_zero,List.set_cons_succ,i64_w,i32_w]
      rfl
     refine pure_ (i:=5) (N:=some 21) (v:=undef) (a':=?_) #[true,true,true,true,true,true,false,false,false,false,false,false] rfl rfl (by kernel_rfl) (fun _ _ _ h=>h) (Or.inr ⟨by rfl,rfl⟩) ?_ ?_
     rotate_left
     ·simp only [Act.put,List.setIfInBounds_toArray,List.set_cons_zero,List.set_cons_succ,i64_w,i32_w]
      rfl
     refine pure_ (i:=6) (N:=some 22) (v:=undef) (a':=?_) #[true,true,true,true,true,true,true,false,false,false,false,false] rfl rfl (by kernel_rfl) (fun _ _ _ h=>h) (Or.inr ⟨by rfl,rfl⟩) ?_ ?_
     rotate_left
     ·simp only [Act.put,List.setIfInBounds_toArray,List.set_cons_zero,List.set_cons_succ,i64_w,i32_w]
      rfl
     refine pure_ (i:=7) (N:=some 23) (v:=undef) (a':=?_) #[true,true,true,true,true,true,true,true,false,false,false,false] rfl rfl (by kernel_rfl) (fun _ _ _ h=>h) (Or.inr ⟨by rfl,rfl⟩) ?_ ?_
     rotate_left
     ·simp only [Act.put,List.setIfInBounds_toArray,List.set_cons_zero,List.set_cons_succ,i64_w,i32_w]
      rfl
     refine pure_ (i:=8) (N:=some 24) (v:=undef) (a':=?_) #[true,true,true,true,true,true,true,true,true,false,false,false] rfl rfl (by kernel_rfl) (fun _ _ _ h=>h) (Or.inr ⟨by rfl,rfl⟩) ?_ ?_
     rotate_left
     ·simp only [Act.put,List.setIfInBounds_toArray,List.set_cons_zero,List.set_cons_succ,i64_w,i32_w]
      rfl
     refine pure_ (i:=9) (N:=some 25) (v:=undef) (a':=?_) #[true,true,true,true,true,true,true,true,true,true,false,false] rfl rfl (by kernel_rfl) (fun _ _ _ h=>h) (Or.inr ⟨by rfl,rfl⟩) ?_ ?_
     rotate_left
     ·simp only [Act.put,List.setIfInBounds_toArray,List.set_cons_zero,List.set_cons_succ,i64_w,i32_w]
      rfl
     refine pure_ (i:=10) (N:=some 26) (v:=undef) (a':=?_) #[true,true,true,true,true,true,true,true,true,true,true,false] rfl rfl (by kernel_rfl) (fun _ _ _ h=>h) (Or.inr ⟨by rfl,rfl⟩) ?_ ?_
     rotate_left
     ·simp only [Act.put,List.setIfInBounds_toArray,List.set_cons_zero,List.set_cons_succ,i64_w,i32_w]
      rfl
     refine pure_ (i:=11) (N:=some 27) (v:=?_) (a':=?_) #[true,true,true,true,true,true,true,true,true,true,true,true] rfl rfl (by kernel_rfl) (fun _ _ _ h=>h) (Or.inl ⟨by rfl,?_⟩) ?_ ?_
     rotate_left
     ·intro w'
      go_simp
      with_reducible rfl
     rotate_left
     ·simp only [Act.put,List.setIfInBounds_toArray,List.set_cons_zero,List.set_cons_succ,i64_w,i32_w]
      rfl
     refine done_ (by kernel_rfl) ?_
     go_wp2
     go_ret
     exact ⟨rfl,HB2.out⟩
    | true =>
     simp only [if_true] at hgo
     have hx13:=hwho rfl
     have HX:=a_ (show 0≤x.f0∧x.f0≤4 from ⟨by omega,by omega⟩)
     have HC:=a_ (show 0≤cntE (l0.take j.toNat) x.f0∧cntE (l0.take j.toNat) x.f0≤1000 from ⟨HCN.out.1,by have:=HCN.out.2;have:=HCL.out;omega⟩)
     clear hwho hx13
     have HGO:=a_ hgo
     clear hgo
     generalize cntE (l0.take j.toNat)=c at HMd HSN HCN HGO HC
     by_cases hq:c x.f0+1=x.f1
     ·have hgo:=HGO.out
      rw [if_pos hq] at hgo
      clear HGO
      have HGO:=a_ hgo
      clear hgo
      have b1:(c x.f0+1 != x.f1)=false:=bne_eq_false_iff_eq.2 hq
      clear hq
      go_region_with (first
       | (go_at_call 78;refine (impl_EntryOk.calls k _ _ _ _ _ _ _ true _ HT.out HGd.out).mono ?_;rintro e w2 ⟨rfl,hb⟩;have HB2:=a_ (bS_ HBd.out hb);have HM2:=a_ (HMd.out.below hb);have HN2:=a_ (blk_below HNd.out hb);clear hb;have hd0:=(bC_ HN2.out 0).trans rfl;have hd1:=(bC_ HN2.out 1).trans rfl)
       | (go_at_call 87;refine (add_any _ _ _ _ _ HX.out HC.out HJN.out.1 HM2.out).mono ?_;rintro e w3 ⟨rfl,hM3,hg3⟩;have HM3:=a_ hM3;have HN3:=a_ ((hg3.block g (blk_lt HN2.out) (by intro e;cases e;have:=HW.out;omega)).trans HN2.out);have HB3:=a_ (HB2.out.grown hg3 HB2.out.size (fun j hj=>by cases hj;exact Nat.le_refl _));clear hM3 hg3;have hf0:=(bC_ HN3.out 0).trans rfl;have hf1:=(bC_ HN3.out 1).trans rfl))
      all_goals go_wp2
      all_goals have hjj:=HJN.out
      all_goals have hww:wrap64 (j+1)=j+1:=by unfold wrap64;omega
      all_goals refine ⟨⟨j+1,by omega,by omega,by rw [hww],HGO.out,?_,HB3.out⟩,?_⟩
      all_goals first
       | (rw [hww];show l0.length - (j+1).toNat < l0.length - j.toNat;omega)
       | (rw [HSN.out,show (j+1).toNat=j.toNat+1 by omega];exact HM3.out)
     ·have hgo:=HGO.out
      rw [if_neg hq] at hgo
      obtain rfl:=sj_ hgo
      clear HGO hgo
      have b1:(c x.f0+1 != x.f1)=true:=bne_iff_ne.2 hq
      clear hq
      go_region_with (first
       | (go_at_call 78;refine (impl_EntryOk.calls k _ _ _ _ _ _ _ true _ HT.out HGd.out).mono ?_;rintro e w2 ⟨rfl,hb⟩;have HB2:=a_ (bS_ HBd.out hb);have HM2:=a_ (HMd.out.below hb);have HN2:=a_ (blk_below HNd.out hb);clear hb;have hd0:=(bC_ HN2.out 0).trans rfl;have hd1:=(bC_ HN2.out 1).trans rfl)
       | (go_at_call 87;refine (add_any _ _ _ _ _ HX.out HC.out HJN.out.1 HM2.out).mono ?_;rintro e w3 ⟨rfl,hM3,hg3⟩;have HN3:=a_ ((hg3.block g (blk_lt HN2.out) (by intro e;cases e;have:=HW.out;omega)).trans HN2.out);have HB3:=a_ (HB2.out.grown hg3 HB2.out.size (fun j hj=>by cases hj;exact Nat.le_refl _));clear hM3 hg3;have hf0:=(bC_ HN3.out 0).trans rfl;have hf1:=(bC_ HN3.out 1).trans rfl))
      all_goals go_wp2
      all_goals go_ret
      all_goals exact ⟨rfl,HB3.out⟩
   ·have hd1:decide (j < (l0.length:Int))=false:=df_ hlt
    have hgo:=HGO.out
    rw [List.drop_eq_nil_of_le (by omega)] at hgo
    unfold impl_LogOk.go at hgo
    obtain rfl:=sj_ hgo
    clear hgo HGO hlt
    go_wp2
    go_ret
    exact ⟨rfl,HB.out⟩
end Go.Proofs.YtdpklbomhdpimaaDoor.P
namespace Go.Proofs.YtdpklbomhdpimaaDoor.P
open Go.RowKit Go.Proofs.YtdpklbomhdpimaaDoorW.PrintWords Go.Proofs.YtdpklbomhdpimaaDoorW.PrintLast
def impl_ServerOk.f (k:Nat) (l0_0:List (S44)) (a0_1:Int) (a0_2:Bool):Option (Bool):=(impl_LogOk.f k l0_0).bind fun t410=>(if t410=true then (if a0_1≥0 then (some (decide (a0_1≤(l0_0.length:Int)))) else (some false)) else (some false))
theorem impl_ServerOk.mono:∀ a0 a1 a2 k,LeO (impl_ServerOk.f k a0 a1 a2) (impl_ServerOk.f (k+1) a0 a1 a2):=by
 intro a0 a1 a2 k
 unfold impl_ServerOk.f
 repeat' first
   | (with_reducible exact impl_LogOk.mono _ _)
   | (with_reducible exact LeO.refl _)
   | (with_reducible exact LeO.none _)
   | (with_reducible refine LeO.ite ?_ ?_)
   | (with_reducible refine LeO.bind ?_ (fun _=>?_))
theorem impl_ServerOk.calls (k:Nat) (A0_0:Option Addr) (c0_0:Nat) (l0_0:List (S44)) (a0_1:Int) (a0_2:Bool) (r:Bool) (w:World) (hr0_0:Kd.C k44 w A0_0 l0_0.length l0_0) (hc0_0:l0_0.length≤c0_0) (h:impl_ServerOk.f k l0_0 a0_1 a0_2=some r) (hG:Glob w) :
  Calls Tryd.prog 16 #[.agg #[.slice A0_0 l0_0.length c0_0,.int .i64 a0_1,.bool a0_2]] w fun e w'=>e=.returned (.bool r)∧Below w.heap.size w w':=by
 have hu25:=Tryd.underlying25
 have HR0_0:=a_ hr0_0
 have HC0_0:=a_ hc0_0
 clear hr0_0 hc0_0
 have HB:=a_ (Below.refl w.heap.size w)
 have HG:=a_ hG
 clear hG
 unfold impl_ServerOk.f at h
 have H:=h
 clear h
 replace H:=bs_ H
 obtain ⟨t410,A20,H⟩:=H
 try dsimp only at H
 have A2:=a_ A20
 clear A20
 by_cases c3:t410=true
 ·subst c3
  have H1:(if a0_1≥0 then (some (decide (a0_1≤(l0_0.length:Int)))) else (some false))=some r:=by rw [if_pos rfl] at H;exact H
  clear H
  have H:=H1
  clear H1
  by_cases c4:a0_1≥0
  ·rw [if_pos c4] at H
   have c4b0:decide (0≤a0_1)=true:=dt_ c4
   clear c4
   obtain rfl:=sj_ H
   go_enter Tryd.func16,Tryd.ntmps16
   go_wp2_with (first|((with_reducible refine gD_ (N:=1) rfl ?_);refine bx_ 1 (#[.slice A0_0 l0_0.length c0_0,.int .i64 a0_1,.bool a0_2]) 25 ?_;intro gb409 hg w5 hbox hb;have n0_:=a_ (bS_ (bel_) hb);have n1_:=a_ (hbox);have n2_:=a_ ((by rw [hg];exact (below_size (bel_)):w.heap.size≤gb409));have n3_:=a_ ((by rw [hg];exact (below_size (bel_)):w.heap.size≤gb409));clear HB;have HB:=n0_;have BK409:=n1_;have GW409:=n2_;have GE409:=n3_;clear n0_ n1_ n2_ n3_;clear hb hbox hg;obtain ⟨Z6_0,Z6_1,Z6_2,Y6_0,Y6_1,Y6_2⟩:=op3_ BK409.out)|((with_reducible refine gC_ (f:=42) rfl ?_);refine gl_ 5 Tryd.func42 #[.slice A0_0 l0_0.length c0_0] ?_;(with_reducible refine (impl_LogOk.calls k _ _ l0_0 true _ ?side1 ?side2 A2.out ?side3).mono ?_);(case side1=>exact cp_ HR0_0.out);(case side2=>exact HC0_0.out);(case side3=>exact Glob.below HG.out (bel_));rintro e w7 ⟨rfl,hb⟩;refine ⟨_,rfl,?_⟩;replace HB:=a_ (bS_ (bel_) hb);replace BK409:=a_ (bb_ BK409.out hb);(try clear hb);obtain ⟨Z8_0,Z8_1,Z8_2,Y8_0,Y8_1,Y8_2⟩:=op3_ BK409.out))
   go_ret
   exact ⟨fi_,bel_⟩
  ·rw [if_neg c4] at H
   have c4b0:decide (0≤a0_1)=false:=df_ c4
   clear c4
   obtain rfl:=sj_ H
   go_enter Tryd.func16,Tryd.ntmps16
   go_wp2_with (first|((with_reducible refine gD_ (N:=1) rfl ?_);refine bx_ 1 (#[.slice A0_0 l0_0.length c0_0,.int .i64 a0_1,.bool a0_2]) 25 ?_;intro gb409 hg w9 hbox hb;have n0_:=a_ (bS_ (bel_) hb);have n1_:=a_ (hbox);have n2_:=a_ ((by rw [hg];exact (below_size (bel_)):w.heap.size≤gb409));have n3_:=a_ ((by rw [hg];exact (below_size (bel_)):w.heap.size≤gb409));clear HB;have HB:=n0_;have BK409:=n1_;have GW409:=n2_;have GE409:=n3_;clear n0_ n1_ n2_ n3_;clear hb hbox hg;obtain ⟨Z10_0,Z10_1,Z10_2,Y10_0,Y10_1,Y10_2⟩:=op3_ BK409.out)|((with_reducible refine gC_ (f:=42) rfl ?_);refine gl_ 5 Tryd.func42 #[.slice A0_0 l0_0.length c0_0] ?_;(with_reducible refine (impl_LogOk.calls k _ _ l0_0 true _ ?side1 ?side2 A2.out ?side3).mono ?_);(case side1=>exact cp_ HR0_0.out);(case side2=>exact HC0_0.out);(case side3=>exact Glob.below HG.out (bel_));rintro e w11 ⟨rfl,hb⟩;refine ⟨_,rfl,?_⟩;replace HB:=a_ (bS_ (bel_) hb);replace BK409:=a_ (bb_ BK409.out hb);(try clear hb);obtain ⟨Z12_0,Z12_1,Z12_2,Y12_0,Y12_1,Y12_2⟩:=op3_ BK409.out))
   go_ret
   exact ⟨fi_,bel_⟩
 ·replace c3:=Bool.eq_false_iff.mpr c3
  subst c3
  have H1:(some false)=some r:=by rw [if_neg (show ¬ (false=true) by decide)] at H;exact H
  clear H
  have H:=H1
  clear H1
  obtain rfl:=sj_ H
  go_enter Tryd.func16,Tryd.ntmps16
  go_wp2_with (first|((with_reducible refine gD_ (N:=1) rfl ?_);refine bx_ 1 (#[.slice A0_0 l0_0.length c0_0,.int .i64 a0_1,.bool a0_2]) 25 ?_;intro gb409 hg w13 hbox hb;have n0_:=a_ (bS_ (bel_) hb);have n1_:=a_ (hbox);have n2_:=a_ ((by rw [hg];exact (below_size (bel_)):w.heap.size≤gb409));have n3_:=a_ ((by rw [hg];exact (below_size (bel_)):w.heap.size≤gb409));clear HB;have HB:=n0_;have BK409:=n1_;have GW409:=n2_;have GE409:=n3_;clear n0_ n1_ n2_ n3_;clear hb hbox hg;obtain ⟨Z14_0,Z14_1,Z14_2,Y14_0,Y14_1,Y14_2⟩:=op3_ BK409.out)|((with_reducible refine gC_ (f:=42) rfl ?_);refine gl_ 5 Tryd.func42 #[.slice A0_0 l0_0.length c0_0] ?_;(with_reducible refine (impl_LogOk.calls k _ _ l0_0 false _ ?side1 ?side2 A2.out ?side3).mono ?_);(case side1=>exact cp_ HR0_0.out);(case side2=>exact HC0_0.out);(case side3=>exact Glob.below HG.out (bel_));rintro e w15 ⟨rfl,hb⟩;refine ⟨_,rfl,?_⟩;replace HB:=a_ (bS_ (bel_) hb);replace BK409:=a_ (bb_ BK409.out hb);(try clear hb)))
  go_ret
  exact ⟨fi_,bel_⟩

def spec_l1Root.f (a0:Int):Option (Bool):=(spec_l6In.f a0 1 3).bind fun t411=>(some t411)
theorem spec_l1Root.calls (a0:Int) (r:Bool) (w:World) (h:spec_l1Root.f a0=some r) :
  Calls Tryd.prog 141 #[.int .i64 a0] w fun e w'=>e=.returned (.bool r)∧Drawn0 w w':=by
 unfold spec_l1Root.f at h
 have H:=h
 clear h
 replace H:=bs_ H
 obtain ⟨t411,A20,H⟩:=H
 try dsimp only at H
 have A2:=a_ A20
 clear A20
 obtain rfl:=sj_ H
 go_enter Tryd.func141,Tryd.ntmps141
 go_wp2_with (first|((with_reducible refine gC_ (f:=75) rfl ?_);refine gl_ 4 Tryd.func75 #[.int .i64 a0,.int .i64 1,.int .i64 3] ?_;(with_reducible refine (spec_l6In.calls a0 1 3 t411 _ A2.out).mono ?_);rintro e w' ⟨rfl,⟨nd,rfl⟩⟩;refine ⟨_,rfl,?_⟩))
 go_ret
 exact ⟨si_,by repeat (first|exact Drawn0.refl _|apply Drawn0.step)⟩

def spec_l3Id.f (a0:Int):Option (Bool):=(spec_l1Root.f a0).bind fun t412=>(if t412=true then (some true) else ((spec_l1Made.f a0).bind fun t413=>(some t413)))
theorem spec_l3Id.calls (a0:Int) (r:Bool) (w:World) (h:spec_l3Id.f a0=some r) :
  Calls Tryd.prog 122 #[.int .i64 a0] w fun e w'=>e=.returned (.bool r)∧Drawn0 w w':=by
 unfold spec_l3Id.f at h
 have H:=h
 clear h
 replace H:=bs_ H
 obtain ⟨t412,A20,H⟩:=H
 try dsimp only at H
 have A2:=a_ A20
 clear A20
 by_cases c3:t412=true
 ·subst c3
  have H1:(some true)=some r:=by rw [if_pos rfl] at H;exact H
  clear H
  have H:=H1
  clear H1
  obtain rfl:=sj_ H
  go_enter Tryd.func122,Tryd.ntmps122
  go_wp2_with (first|((with_reducible refine gC_ (f:=141) rfl ?_);refine gl_ 4 Tryd.func141 #[.int .i64 a0] ?_;(with_reducible refine (spec_l1Root.calls a0 true _ A2.out).mono ?_);rintro e w' ⟨rfl,⟨nd,rfl⟩⟩;refine ⟨_,rfl,?_⟩))
  go_ret
  exact ⟨si_,by repeat (first|exact Drawn0.refl _|apply Drawn0.step)⟩
 ·replace c3:=Bool.eq_false_iff.mpr c3
  subst c3
  have H1:((spec_l1Made.f a0).bind fun t413=>(some t413))=some r:=by rw [if_neg (show ¬ (false=true) by decide)] at H;exact H
  clear H
  have H:=H1
  clear H1
  replace H:=bs_ H
  obtain ⟨t413,A40,H⟩:=H
  try dsimp only at H
  have A4:=a_ A40
  clear A40
  obtain rfl:=sj_ H
  go_enter Tryd.func122,Tryd.ntmps122
  go_wp2_with (first|((with_reducible refine gC_ (f:=141) rfl ?_);refine gl_ 4 Tryd.func141 #[.int .i64 a0] ?_;(with_reducible refine (spec_l1Root.calls a0 false _ A2.out).mono ?_);rintro e w' ⟨rfl,⟨nd,rfl⟩⟩;refine ⟨_,rfl,?_⟩)|(go_at_call 120;(with_reducible refine (spec_l1Made.calls a0 t413 _ A4.out).mono ?_);rintro e w' ⟨rfl,⟨nd,rfl⟩⟩))
  go_ret
  exact ⟨si_,by repeat (first|exact Drawn0.refl _|apply Drawn0.step)⟩

def spec_OpOk.j0:Nat→Bool→Int→Int→Int→Int→ByteArray→Option (Bool)
 | 0,_,_,_,_,_,_=>none
 | k+1,x12,x415000,x415001,x415002,x415003,x415004=>if x12=true then (some false) else (if x415000=1 then ((spec_l3Id.f x415002).bind fun t417=>(if t417=true then (if x415003=0 then (some true) else ((spec_l1Made.f x415003).bind fun t418=>(some t418))) else (some false))) else (if x415000=2 then (if x415002=0 then (some (x415003==0)) else (some false)) else (if x415000=3 then ((spec_l3Id.f x415002).bind fun t419=>(if t419=true then (if x415003=0 then (some (x415004.toList==([]:List UInt8))) else ((spec_l1Made.f x415003).bind fun t420=>(if t420=true then (some (x415004.toList==([]:List UInt8))) else (some false)))) else (some false))) else (some false))))
def spec_OpOk.f (k:Nat) (a0_0:Int) (a0_1:Int) (a0_2:Int) (a0_3:Int) (a0_4:ByteArray):Option (Bool):=(spec_l1Made.f a0_1).bind fun t415=>(if t415=true then ((spec_l1Text.f k a0_4).bind fun t416=>(spec_OpOk.j0 k (!t416) a0_0 a0_1 a0_2 a0_3 a0_4)) else (spec_OpOk.j0 k true a0_0 a0_1 a0_2 a0_3 a0_4))
theorem spec_OpOk.mono_l:∀ k,(∀ y0 y1 y2 y3 y4 y5,LeO (spec_OpOk.j0 k y0 y1 y2 y3 y4 y5) (spec_OpOk.j0 (k+1) y0 y1 y2 y3 y4 y5))
 | 0=>fun _ _ _ _ _ _ r h=>by simp [spec_OpOk.j0] at h
 | k+1=>by
  have ih0:=spec_OpOk.mono_l k
  ·intro y0 y1 y2 y3 y4 y5
   unfold spec_OpOk.j0
   repeat' first
   | (with_reducible exact ih0 _ _ _ _ _ _)
   | (with_reducible exact spec_l1Text.mono _ _)
   | (with_reducible exact LeO.refl _)
   | (with_reducible exact LeO.none _)
   | (with_reducible refine LeO.ite ?_ ?_)
   | (with_reducible refine LeO.bind ?_ (fun _=>?_))
theorem spec_OpOk.mono:∀ a0 a1 a2 a3 a4 k,LeO (spec_OpOk.f k a0 a1 a2 a3 a4) (spec_OpOk.f (k+1) a0 a1 a2 a3 a4):=by
 intro a0 a1 a2 a3 a4 k
 have ih0:=spec_OpOk.mono_l k
 unfold spec_OpOk.f
 repeat' first
   | (with_reducible exact ih0 _ _ _ _ _ _)
   | (with_reducible exact spec_l1Text.mono _ _)
   | (with_reducible exact LeO.refl _)
   | (with_reducible exact LeO.none _)
   | (with_reducible refine LeO.ite ?_ ?_)
   | (with_reducible refine LeO.bind ?_ (fun _=>?_))
theorem spec_OpOk.calls (k:Nat) (a0_0:Int) (a0_1:Int) (a0_2:Int) (a0_3:Int) (a0_4:ByteArray) (r:Bool) (w:World) (h:spec_OpOk.f k a0_0 a0_1 a0_2 a0_3 a0_4=some r) :
  Calls Tryd.prog 84 #[.agg #[.int .i64 a0_0,.int .i64 a0_1,.int .i64 a0_2,.int .i64 a0_3,.string a0_4]] w fun e w'=>e=.returned (.bool r)∧Below w.heap.size w w':=by
 have hu42:=Tryd.underlying42
 have HB:=a_ (Below.refl w.heap.size w)
 unfold spec_OpOk.f at h
 have H:=h
 clear h
 have HC2:=a_ H
 clear H
 go_enter Tryd.func84,Tryd.ntmps84
 go_upto_region 1 with (first|((with_reducible refine gD_ (N:=1) rfl ?_);refine bx_ 1 (#[.int .i64 a0_0,.int .i64 a0_1,.int .i64 a0_2,.int .i64 a0_3,.string a0_4]) 42 ?_;intro gb414 hg w3 hbox hb;have n0_:=a_ (bS_ (bel_) hb);have n1_:=a_ (hbox);have n2_:=a_ ((by rw [hg];exact (below_size (bel_)):w.heap.size≤gb414));have n3_:=a_ ((by rw [hg];exact (below_size (bel_)):w.heap.size≤gb414));clear HB;have HB:=n0_;have BK414:=n1_;have GW414:=n2_;have GE414:=n3_;clear n0_ n1_ n2_ n3_;clear hb hbox hg))
 (try simp only [Act.put,List.setIfInBounds_toArray,List.set_cons_zero,List.set_cons_succ])
 go_cut [12] (fun v12 wc=>∃ (kq:Nat) (x12_1:Bool),v12=.bool x12_1∧Aside0 (spec_OpOk.j0 kq x12_1 a0_0 a0_1 a0_2 a0_3 a0_4=some r)∧Aside0 (kq≤k)∧Aside0 (wc.heap[gb414]?=some (.cells #[.int .i64 a0_0,.int .i64 a0_1,.int .i64 a0_2,.int .i64 a0_3,.string a0_4] 42 (0,0)))∧Aside0 (Below w.heap.size w wc))
 case first =>
  have H:=HC2.out
  clear HC2
  replace H:=bs_ H
  obtain ⟨t415,A40,H⟩:=H
  try dsimp only at H
  have A4:=a_ A40
  clear A40
  by_cases c5:t415=true
  ·subst c5
   have H1:((spec_l1Text.f k a0_4).bind fun t416=>(spec_OpOk.j0 k (!t416) a0_0 a0_1 a0_2 a0_3 a0_4))=some r:=by rw [if_pos rfl] at H;exact H
   clear H
   have H:=H1
   clear H1
   replace H:=bs_ H
   obtain ⟨t416,A60,H⟩:=H
   try dsimp only at H
   have A6:=a_ A60
   clear A60
   have H':=a_ H
   clear H
   obtain ⟨Z7_0,Z7_1,Z7_2,Z7_3,Z7_4,Y7_0,Y7_1,Y7_2,Y7_3,Y7_4⟩:=op5_ BK414.out
   go_wp2_with (first|((with_reducible refine gC_ (f:=120) rfl ?_);refine gl_ 5 Tryd.func120 #[.int .i64 a0_1] ?_;(with_reducible refine (spec_l1Made.calls a0_1 true _ A4.out).mono ?_);rintro e w' ⟨rfl,⟨nd,rfl⟩⟩;refine ⟨_,rfl,?_⟩)|(go_at_call 121;(with_reducible refine (spec_l1Text.calls k a0_4 t416 _ A6.out).mono ?_);rintro e w' ⟨rfl,⟨nd,rfl⟩⟩))
   go_meet
   case rel=>exact ⟨_,(!t416),(si_),H',⟨by first|omega|exact Nat.le_refl _⟩,⟨bp_ BK414.out⟩,⟨bel_⟩⟩
  ·replace c5:=Bool.eq_false_iff.mpr c5
   subst c5
   have H1:(spec_OpOk.j0 k true a0_0 a0_1 a0_2 a0_3 a0_4)=some r:=by rw [if_neg (show ¬ (false=true) by decide)] at H;exact H
   clear H
   have H:=H1
   clear H1
   have H':=a_ H
   clear H
   obtain ⟨Z8_0,Z8_1,Z8_2,Z8_3,Z8_4,Y8_0,Y8_1,Y8_2,Y8_3,Y8_4⟩:=op5_ BK414.out
   go_wp2_with (first|((with_reducible refine gC_ (f:=120) rfl ?_);refine gl_ 5 Tryd.func120 #[.int .i64 a0_1] ?_;(with_reducible refine (spec_l1Made.calls a0_1 false _ A4.out).mono ?_);rintro e w' ⟨rfl,⟨nd,rfl⟩⟩;refine ⟨_,rfl,?_⟩))
   go_meet
   case rel=>exact ⟨_,(true),(si_),H',⟨by first|omega|exact Nat.le_refl _⟩,⟨bp_ BK414.out⟩,⟨bel_⟩⟩
 case rest =>
  clear HC2
  try clear c1
  try clear p2
  try clear c5
  try clear c8
  try clear Z7_0 Z7_1 Z7_2 Z7_3 Z7_4 Y7_0 Y7_1 Y7_2 Y7_3 Y7_4
  try clear Z8_0 Z8_1 Z8_2 Z8_3 Z8_4 Y8_0 Y8_1 Y8_2 Y8_3 Y8_4
  obtain ⟨kq,x12_1,rfl,HA,HJ1,BK414,HB⟩:=hcut
  cases kq with
  | zero=>exact absurd HA.out (by simp [spec_OpOk.j0])
  | succ kj1 =>
   have H:=HA.out
   clear HA
   simp only [spec_OpOk.j0] at H
   by_cases c9:x12_1=true
   ·subst c9
    have H1:(some false)=some r:=by rw [if_pos rfl] at H;exact H
    clear H
    have H:=H1
    clear H1
    obtain rfl:=sj_ H
    go_wp2
    go_ret
    exact ⟨fi_,bel_⟩
   ·replace c9:=Bool.eq_false_iff.mpr c9
    subst c9
    have H1:(if a0_0=1 then ((spec_l3Id.f a0_2).bind fun t417=>(if t417=true then (if a0_3=0 then (some true) else ((spec_l1Made.f a0_3).bind fun t418=>(some t418))) else (some false))) else (if a0_0=2 then (if a0_2=0 then (some (a0_3==0)) else (some false)) else (if a0_0=3 then ((spec_l3Id.f a0_2).bind fun t419=>(if t419=true then (if a0_3=0 then (some (a0_4.toList==([]:List UInt8))) else ((spec_l1Made.f a0_3).bind fun t420=>(if t420=true then (some (a0_4.toList==([]:List UInt8))) else (some false)))) else (some false))) else (some false))))=some r:=by rw [if_neg (show ¬ (false=true) by decide)] at H;exact H
    clear H
    have H:=H1
    clear H1
    by_cases c10:a0_0=1
    ·rw [if_pos c10] at H
     have c10b0:(a0_0==1)=true:=beq_iff_eq.mpr c10
     have c10b1:(a0_0 != 1)=false:=be_ c10
     clear c10
     replace H:=bs_ H
     obtain ⟨t417,A110,H⟩:=H
     try dsimp only at H
     have A11:=a_ A110
     clear A110
     by_cases c12:t417=true
     ·subst c12
      have H1:(if a0_3=0 then (some true) else ((spec_l1Made.f a0_3).bind fun t418=>(some t418)))=some r:=by rw [if_pos rfl] at H;exact H
      clear H
      have H:=H1
      clear H1
      by_cases c13:a0_3=0
      ·rw [if_pos c13] at H
       have c13b0:(a0_3==0)=true:=beq_iff_eq.mpr c13
       have c13b1:(a0_3 != 0)=false:=be_ c13
       clear c13
       obtain rfl:=sj_ H
       obtain ⟨Z14_0,Z14_1,Z14_2,Z14_3,Z14_4,Y14_0,Y14_1,Y14_2,Y14_3,Y14_4⟩:=op5_ (W:=wc) BK414.out
       go_wp2_with (first|((with_reducible refine gC_ (f:=122) rfl ?_);refine gl_ 19 Tryd.func122 #[.int .i64 a0_2] ?_;(with_reducible refine (spec_l3Id.calls a0_2 true _ A11.out).mono ?_);rintro e w' ⟨rfl,⟨nd,rfl⟩⟩;refine ⟨_,rfl,?_⟩))
       go_ret
       exact ⟨fi_,bel_⟩
      ·rw [if_neg c13] at H
       have c13b0:(a0_3==0)=false:=bn_ c13
       have c13b1:(a0_3 != 0)=true:=bne_iff_ne.mpr c13
       replace H:=bs_ H
       obtain ⟨t418,A150,H⟩:=H
       try dsimp only at H
       have A15:=a_ A150
       clear A150
       obtain rfl:=sj_ H
       obtain ⟨Z16_0,Z16_1,Z16_2,Z16_3,Z16_4,Y16_0,Y16_1,Y16_2,Y16_3,Y16_4⟩:=op5_ (W:=wc) BK414.out
       go_wp2_with (first|((with_reducible refine gC_ (f:=122) rfl ?_);refine gl_ 19 Tryd.func122 #[.int .i64 a0_2] ?_;(with_reducible refine (spec_l3Id.calls a0_2 true _ A11.out).mono ?_);rintro e w' ⟨rfl,⟨nd,rfl⟩⟩;refine ⟨_,rfl,?_⟩)|(go_at_call 120;(with_reducible refine (spec_l1Made.calls a0_3 t418 _ A15.out).mono ?_);rintro e w' ⟨rfl,⟨nd,rfl⟩⟩))
       go_ret
       exact ⟨fi_,bel_⟩
     ·replace c12:=Bool.eq_false_iff.mpr c12
      subst c12
      have H1:(some false)=some r:=by rw [if_neg (show ¬ (false=true) by decide)] at H;exact H
      clear H
      have H:=H1
      clear H1
      obtain rfl:=sj_ H
      obtain ⟨Z17_0,Z17_1,Z17_2,Z17_3,Z17_4,Y17_0,Y17_1,Y17_2,Y17_3,Y17_4⟩:=op5_ (W:=wc) BK414.out
      go_wp2_with (first|((with_reducible refine gC_ (f:=122) rfl ?_);refine gl_ 19 Tryd.func122 #[.int .i64 a0_2] ?_;(with_reducible refine (spec_l3Id.calls a0_2 false _ A11.out).mono ?_);rintro e w' ⟨rfl,⟨nd,rfl⟩⟩;refine ⟨_,rfl,?_⟩))
      go_ret
      exact ⟨fi_,bel_⟩
    ·rw [if_neg c10] at H
     have c10b0:(a0_0==1)=false:=bn_ c10
     have c10b1:(a0_0 != 1)=true:=bne_iff_ne.mpr c10
     by_cases c18:a0_0=2
     ·rw [if_pos c18] at H
      have c18b0:(a0_0==2)=true:=beq_iff_eq.mpr c18
      have c18b1:(a0_0 != 2)=false:=be_ c18
      clear c18
      by_cases c19:a0_2=0
      ·rw [if_pos c19] at H
       have c19b0:(a0_2==0)=true:=beq_iff_eq.mpr c19
       have c19b1:(a0_2 != 0)=false:=be_ c19
       clear c19
       obtain rfl:=sj_ H
       obtain ⟨Z20_0,Z20_1,Z20_2,Z20_3,Z20_4,Y20_0,Y20_1,Y20_2,Y20_3,Y20_4⟩:=op5_ (W:=wc) BK414.out
       go_wp2
       go_ret
       exact ⟨fi_,bel_⟩
      ·rw [if_neg c19] at H
       have c19b0:(a0_2==0)=false:=bn_ c19
       have c19b1:(a0_2 != 0)=true:=bne_iff_ne.mpr c19
       obtain rfl:=sj_ H
       obtain ⟨Z21_0,Z21_1,Z21_2,Z21_3,Z21_4,Y21_0,Y21_1,Y21_2,Y21_3,Y21_4⟩:=op5_ (W:=wc) BK414.out
       go_wp2
       go_ret
       exact ⟨fi_,bel_⟩
     ·rw [if_neg c18] at H
      have c18b0:(a0_0==2)=false:=bn_ c18
      have c18b1:(a0_0 != 2)=true:=bne_iff_ne.mpr c18
      by_cases c22:a0_0=3
      ·rw [if_pos c22] at H
       have c22b0:(a0_0==3)=true:=beq_iff_eq.mpr c22
       have c22b1:(a0_0 != 3)=false:=be_ c22
       clear c22
       replace H:=bs_ H
       obtain ⟨t419,A230,H⟩:=H
       try dsimp only at H
       have A23:=a_ A230
       clear A230
       by_cases c24:t419=true
       ·subst c24
        have H1:(if a0_3=0 then (some (a0_4.toList==([]:List UInt8))) else ((spec_l1Made.f a0_3).bind fun t420=>(if t420=true then (some (a0_4.toList==([]:List UInt8))) else (some false))))=some r:=by rw [if_pos rfl] at H;exact H
        clear H
        have H:=H1
        clear H1
        by_cases c25:a0_3=0
        ·rw [if_pos c25] at H
         have c25b0:(a0_3==0)=true:=beq_iff_eq.mpr c25
         have c25b1:(a0_3 != 0)=false:=be_ c25
         clear c25
         obtain rfl:=sj_ H
         obtain ⟨Z26_0,Z26_1,Z26_2,Z26_3,Z26_4,Y26_0,Y26_1,Y26_2,Y26_3,Y26_4⟩:=op5_ (W:=wc) BK414.out
         go_wp2_with (first|((with_reducible refine gC_ (f:=122) rfl ?_);refine gl_ 44 Tryd.func122 #[.int .i64 a0_2] ?_;(with_reducible refine (spec_l3Id.calls a0_2 true _ A23.out).mono ?_);rintro e w' ⟨rfl,⟨nd,rfl⟩⟩;refine ⟨_,rfl,?_⟩))
         go_ret
         exact ⟨fi_,bel_⟩
        ·rw [if_neg c25] at H
         have c25b0:(a0_3==0)=false:=bn_ c25
         have c25b1:(a0_3 != 0)=true:=bne_iff_ne.mpr c25
         replace H:=bs_ H
         obtain ⟨t420,A270,H⟩:=H
         try dsimp only at H
         have A27:=a_ A270
         clear A270
         by_cases c28:t420=true
         ·subst c28
          have H1:(some (a0_4.toList==([]:List UInt8)))=some r:=by rw [if_pos rfl] at H;exact H
          clear H
          have H:=H1
          clear H1
          obtain rfl:=sj_ H
          obtain ⟨Z29_0,Z29_1,Z29_2,Z29_3,Z29_4,Y29_0,Y29_1,Y29_2,Y29_3,Y29_4⟩:=op5_ (W:=wc) BK414.out
          go_wp2_with (first|((with_reducible refine gC_ (f:=122) rfl ?_);refine gl_ 44 Tryd.func122 #[.int .i64 a0_2] ?_;(with_reducible refine (spec_l3Id.calls a0_2 true _ A23.out).mono ?_);rintro e w' ⟨rfl,⟨nd,rfl⟩⟩;refine ⟨_,rfl,?_⟩)|(go_at_call 120;(with_reducible refine (spec_l1Made.calls a0_3 true _ A27.out).mono ?_);rintro e w' ⟨rfl,⟨nd,rfl⟩⟩))
          go_ret
          exact ⟨fi_,bel_⟩
         ·replace c28:=Bool.eq_false_iff.mpr c28
          subst c28
          have H1:(some false)=some r:=by rw [if_neg (show ¬ (false=true) by decide)] at H;exact H
          clear H
          have H:=H1
          clear H1
          obtain rfl:=sj_ H
          obtain ⟨Z30_0,Z30_1,Z30_2,Z30_3,Z30_4,Y30_0,Y30_1,Y30_2,Y30_3,Y30_4⟩:=op5_ (W:=wc) BK414.out
          go_wp2_with (first|((with_reducible refine gC_ (f:=122) rfl ?_);refine gl_ 44 Tryd.func122 #[.int .i64 a0_2] ?_;(with_reducible refine (spec_l3Id.calls a0_2 true _ A23.out).mono ?_);rintro e w' ⟨rfl,⟨nd,rfl⟩⟩;refine ⟨_,rfl,?_⟩)|(go_at_call 120;(with_reducible refine (spec_l1Made.calls a0_3 false _ A27.out).mono ?_);rintro e w' ⟨rfl,⟨nd,rfl⟩⟩))
          go_ret
          exact ⟨fi_,bel_⟩
       ·replace c24:=Bool.eq_false_iff.mpr c24
        subst c24
        have H1:(some false)=some r:=by rw [if_neg (show ¬ (false=true) by decide)] at H;exact H
        clear H
        have H:=H1
        clear H1
        obtain rfl:=sj_ H
        obtain ⟨Z31_0,Z31_1,Z31_2,Z31_3,Z31_4,Y31_0,Y31_1,Y31_2,Y31_3,Y31_4⟩:=op5_ (W:=wc) BK414.out
        go_wp2_with (first|((with_reducible refine gC_ (f:=122) rfl ?_);refine gl_ 44 Tryd.func122 #[.int .i64 a0_2] ?_;(with_reducible refine (spec_l3Id.calls a0_2 false _ A23.out).mono ?_);rintro e w' ⟨rfl,⟨nd,rfl⟩⟩;refine ⟨_,rfl,?_⟩))
        go_ret
        exact ⟨fi_,bel_⟩
      ·rw [if_neg c22] at H
       have c22b0:(a0_0==3)=false:=bn_ c22
       have c22b1:(a0_0 != 3)=true:=bne_iff_ne.mpr c22
       obtain rfl:=sj_ H
       obtain ⟨Z32_0,Z32_1,Z32_2,Z32_3,Z32_4,Y32_0,Y32_1,Y32_2,Y32_3,Y32_4⟩:=op5_ (W:=wc) BK414.out
       go_wp2
       go_ret
       exact ⟨fi_,bel_⟩

def spec_EntryOk.f (k:Nat) (a0_0:Int) (a0_1:Int) (a0_2:Int) (a0_3:Int) (a0_4:Int) (a0_5:Int) (a0_6:ByteArray):Option (Bool):=(spec_l6In.f a0_0 1 3).bind fun t422=>(if t422=true then ((spec_l6In.f a0_1 1 40).bind fun t423=>(if t423=true then ((spec_OpOk.f k a0_2 a0_3 a0_4 a0_5 a0_6).bind fun t424=>(if t424=true then (if a0_2=1 then (some ((wrap64 (Int.tdiv a0_3 10))==a0_0)) else (some true)) else (some false))) else (some false))) else (some false))
theorem spec_EntryOk.mono:∀ a0 a1 a2 a3 a4 a5 a6 k,LeO (spec_EntryOk.f k a0 a1 a2 a3 a4 a5 a6) (spec_EntryOk.f (k+1) a0 a1 a2 a3 a4 a5 a6):=by
 intro a0 a1 a2 a3 a4 a5 a6 k
 unfold spec_EntryOk.f
 repeat' first
   | (with_reducible exact spec_OpOk.mono _ _ _ _ _ _)
   | (with_reducible exact LeO.refl _)
   | (with_reducible exact LeO.none _)
   | (with_reducible refine LeO.ite ?_ ?_)
   | (with_reducible refine LeO.bind ?_ (fun _=>?_))
theorem spec_EntryOk.calls (k:Nat) (a0_0:Int) (a0_1:Int) (a0_2:Int) (a0_3:Int) (a0_4:Int) (a0_5:Int) (a0_6:ByteArray) (r:Bool) (w:World) (h:spec_EntryOk.f k a0_0 a0_1 a0_2 a0_3 a0_4 a0_5 a0_6=some r) :
  Calls Tryd.prog 30 #[.agg #[.int .i64 a0_0,.int .i64 a0_1,.int .i64 a0_2,.int .i64 a0_3,.int .i64 a0_4,.int .i64 a0_5,.string a0_6]] w fun e w'=>e=.returned (.bool r)∧Below w.heap.size w w':=by
 have hu44:=Tryd.underlying44
 have hu42:=Tryd.underlying42
 have HB:=a_ (Below.refl w.heap.size w)
 unfold spec_EntryOk.f at h
 have H:=h
 clear h
 replace H:=bs_ H
 obtain ⟨t422,A20,H⟩:=H
 try dsimp only at H
 have A2:=a_ A20
 clear A20
 by_cases c3:t422=true
 ·subst c3
  have H1:((spec_l6In.f a0_1 1 40).bind fun t423=>(if t423=true then ((spec_OpOk.f k a0_2 a0_3 a0_4 a0_5 a0_6).bind fun t424=>(if t424=true then (if a0_2=1 then (some ((wrap64 (Int.tdiv a0_3 10))==a0_0)) else (some true)) else (some false))) else (some false)))=some r:=by rw [if_pos rfl] at H;exact H
  clear H
  have H:=H1
  clear H1
  replace H:=bs_ H
  obtain ⟨t423,A40,H⟩:=H
  try dsimp only at H
  have A4:=a_ A40
  clear A40
  by_cases c5:t423=true
  ·subst c5
   have H1:((spec_OpOk.f k a0_2 a0_3 a0_4 a0_5 a0_6).bind fun t424=>(if t424=true then (if a0_2=1 then (some ((wrap64 (Int.tdiv a0_3 10))==a0_0)) else (some true)) else (some false)))=some r:=by rw [if_pos rfl] at H;exact H
   clear H
   have H:=H1
   clear H1
   replace H:=bs_ H
   obtain ⟨t424,A60,H⟩:=H
   try dsimp only at H
   have A6:=a_ A60
   clear A60
   by_cases c7:t424=true
   ·subst c7
    have H1:(if a0_2=1 then (some ((wrap64 (Int.tdiv a0_3 10))==a0_0)) else (some true))=some r:=by rw [if_pos rfl] at H;exact H
    clear H
    have H:=H1
    clear H1
    by_cases c8:a0_2=1
    ·rw [if_pos c8] at H
     have c8b0:(a0_2==1)=true:=beq_iff_eq.mpr c8
     have c8b1:(a0_2 != 1)=false:=be_ c8
     clear c8
     obtain rfl:=sj_ H
     go_enter Tryd.func30,Tryd.ntmps30
     go_wp2_with (first|((with_reducible refine gD_ (N:=1) rfl ?_);refine bx_ 1 (#[.int .i64 a0_0,.int .i64 a0_1,.int .i64 a0_2,.int .i64 a0_3,.int .i64 a0_4,.int .i64 a0_5,.string a0_6]) 44 ?_;intro gb421 hg w9 hbox hb;have n0_:=a_ (bS_ (bel_) hb);have n1_:=a_ (hbox);have n2_:=a_ ((by rw [hg];exact (below_size (bel_)):w.heap.size≤gb421));have n3_:=a_ ((by rw [hg];exact (below_size (bel_)):w.heap.size≤gb421));clear HB;have HB:=n0_;have BK421:=n1_;have GW421:=n2_;have GE421:=n3_;clear n0_ n1_ n2_ n3_;clear hb hbox hg;obtain ⟨Z10_0,Z10_1,Z10_2,Z10_3,Z10_4,Z10_5,Z10_6,Y10_0,Y10_1,Y10_2,Y10_3,Y10_4,Y10_5,Y10_6⟩:=op7_ BK421.out)|((with_reducible refine gC_ (f:=75) rfl ?_);refine gl_ 5 Tryd.func75 #[.int .i64 a0_0,.int .i64 1,.int .i64 3] ?_;(with_reducible refine (spec_l6In.calls a0_0 1 3 true _ A2.out).mono ?_);rintro e w' ⟨rfl,⟨nd,rfl⟩⟩;refine ⟨_,rfl,?_⟩)|(go_at_call 75;(with_reducible refine (spec_l6In.calls a0_1 1 40 true _ A4.out).mono ?_);rintro e w' ⟨rfl,⟨nd,rfl⟩⟩)|(go_at_call 84;(with_reducible refine (spec_OpOk.calls k a0_2 a0_3 a0_4 a0_5 a0_6 true _ A6.out).mono ?_);rintro e w11 ⟨rfl,hb⟩;replace HB:=a_ (bS_ (bel_) hb);replace BK421:=a_ (bb_ BK421.out hb);(try clear hb);obtain ⟨Z12_0,Z12_1,Z12_2,Z12_3,Z12_4,Z12_5,Z12_6,Y12_0,Y12_1,Y12_2,Y12_3,Y12_4,Y12_5,Y12_6⟩:=op7_ BK421.out))
     go_ret
     exact ⟨fi_,bel_⟩
    ·rw [if_neg c8] at H
     have c8b0:(a0_2==1)=false:=bn_ c8
     have c8b1:(a0_2 != 1)=true:=bne_iff_ne.mpr c8
     obtain rfl:=sj_ H
     go_enter Tryd.func30,Tryd.ntmps30
     go_wp2_with (first|((with_reducible refine gD_ (N:=1) rfl ?_);refine bx_ 1 (#[.int .i64 a0_0,.int .i64 a0_1,.int .i64 a0_2,.int .i64 a0_3,.int .i64 a0_4,.int .i64 a0_5,.string a0_6]) 44 ?_;intro gb421 hg w13 hbox hb;have n0_:=a_ (bS_ (bel_) hb);have n1_:=a_ (hbox);have n2_:=a_ ((by rw [hg];exact (below_size (bel_)):w.heap.size≤gb421));have n3_:=a_ ((by rw [hg];exact (below_size (bel_)):w.heap.size≤gb421));clear HB;have HB:=n0_;have BK421:=n1_;have GW421:=n2_;have GE421:=n3_;clear n0_ n1_ n2_ n3_;clear hb hbox hg;obtain ⟨Z14_0,Z14_1,Z14_2,Z14_3,Z14_4,Z14_5,Z14_6,Y14_0,Y14_1,Y14_2,Y14_3,Y14_4,Y14_5,Y14_6⟩:=op7_ BK421.out)|((with_reducible refine gC_ (f:=75) rfl ?_);refine gl_ 5 Tryd.func75 #[.int .i64 a0_0,.int .i64 1,.int .i64 3] ?_;(with_reducible refine (spec_l6In.calls a0_0 1 3 true _ A2.out).mono ?_);rintro e w' ⟨rfl,⟨nd,rfl⟩⟩;refine ⟨_,rfl,?_⟩)|(go_at_call 75;(with_reducible refine (spec_l6In.calls a0_1 1 40 true _ A4.out).mono ?_);rintro e w' ⟨rfl,⟨nd,rfl⟩⟩)|(go_at_call 84;(with_reducible refine (spec_OpOk.calls k a0_2 a0_3 a0_4 a0_5 a0_6 true _ A6.out).mono ?_);rintro e w15 ⟨rfl,hb⟩;replace HB:=a_ (bS_ (bel_) hb);replace BK421:=a_ (bb_ BK421.out hb);(try clear hb);obtain ⟨Z16_0,Z16_1,Z16_2,Z16_3,Z16_4,Z16_5,Z16_6,Y16_0,Y16_1,Y16_2,Y16_3,Y16_4,Y16_5,Y16_6⟩:=op7_ BK421.out))
     go_ret
     exact ⟨fi_,bel_⟩
   ·replace c7:=Bool.eq_false_iff.mpr c7
    subst c7
    have H1:(some false)=some r:=by rw [if_neg (show ¬ (false=true) by decide)] at H;exact H
    clear H
    have H:=H1
    clear H1
    obtain rfl:=sj_ H
    go_enter Tryd.func30,Tryd.ntmps30
    go_wp2_with (first|((with_reducible refine gD_ (N:=1) rfl ?_);refine bx_ 1 (#[.int .i64 a0_0,.int .i64 a0_1,.int .i64 a0_2,.int .i64 a0_3,.int .i64 a0_4,.int .i64 a0_5,.string a0_6]) 44 ?_;intro gb421 hg w17 hbox hb;have n0_:=a_ (bS_ (bel_) hb);have n1_:=a_ (hbox);have n2_:=a_ ((by rw [hg];exact (below_size (bel_)):w.heap.size≤gb421));have n3_:=a_ ((by rw [hg];exact (below_size (bel_)):w.heap.size≤gb421));clear HB;have HB:=n0_;have BK421:=n1_;have GW421:=n2_;have GE421:=n3_;clear n0_ n1_ n2_ n3_;clear hb hbox hg;obtain ⟨Z18_0,Z18_1,Z18_2,Z18_3,Z18_4,Z18_5,Z18_6,Y18_0,Y18_1,Y18_2,Y18_3,Y18_4,Y18_5,Y18_6⟩:=op7_ BK421.out)|((with_reducible refine gC_ (f:=75) rfl ?_);refine gl_ 5 Tryd.func75 #[.int .i64 a0_0,.int .i64 1,.int .i64 3] ?_;(with_reducible refine (spec_l6In.calls a0_0 1 3 true _ A2.out).mono ?_);rintro e w' ⟨rfl,⟨nd,rfl⟩⟩;refine ⟨_,rfl,?_⟩)|(go_at_call 75;(with_reducible refine (spec_l6In.calls a0_1 1 40 true _ A4.out).mono ?_);rintro e w' ⟨rfl,⟨nd,rfl⟩⟩)|(go_at_call 84;(with_reducible refine (spec_OpOk.calls k a0_2 a0_3 a0_4 a0_5 a0_6 false _ A6.out).mono ?_);rintro e w19 ⟨rfl,hb⟩;replace HB:=a_ (bS_ (bel_) hb);replace BK421:=a_ (bb_ BK421.out hb);(try clear hb)))
    go_ret
    exact ⟨fi_,bel_⟩
  ·replace c5:=Bool.eq_false_iff.mpr c5
   subst c5
   have H1:(some false)=some r:=by rw [if_neg (show ¬ (false=true) by decide)] at H;exact H
   clear H
   have H:=H1
   clear H1
   obtain rfl:=sj_ H
   go_enter Tryd.func30,Tryd.ntmps30
   go_wp2_with (first|((with_reducible refine gD_ (N:=1) rfl ?_);refine bx_ 1 (#[.int .i64 a0_0,.int .i64 a0_1,.int .i64 a0_2,.int .i64 a0_3,.int .i64 a0_4,.int .i64 a0_5,.string a0_6]) 44 ?_;intro gb421 hg w20 hbox hb;have n0_:=a_ (bS_ (bel_) hb);have n1_:=a_ (hbox);have n2_:=a_ ((by rw [hg];exact (below_size (bel_)):w.heap.size≤gb421));have n3_:=a_ ((by rw [hg];exact (below_size (bel_)):w.heap.size≤gb421));clear HB;have HB:=n0_;have BK421:=n1_;have GW421:=n2_;have GE421:=n3_;clear n0_ n1_ n2_ n3_;clear hb hbox hg;obtain ⟨Z21_0,Z21_1,Z21_2,Z21_3,Z21_4,Z21_5,Z21_6,Y21_0,Y21_1,Y21_2,Y21_3,Y21_4,Y21_5,Y21_6⟩:=op7_ BK421.out)|((with_reducible refine gC_ (f:=75) rfl ?_);refine gl_ 5 Tryd.func75 #[.int .i64 a0_0,.int .i64 1,.int .i64 3] ?_;(with_reducible refine (spec_l6In.calls a0_0 1 3 true _ A2.out).mono ?_);rintro e w' ⟨rfl,⟨nd,rfl⟩⟩;refine ⟨_,rfl,?_⟩)|(go_at_call 75;(with_reducible refine (spec_l6In.calls a0_1 1 40 false _ A4.out).mono ?_);rintro e w' ⟨rfl,⟨nd,rfl⟩⟩))
   go_ret
   exact ⟨fi_,bel_⟩
 ·replace c3:=Bool.eq_false_iff.mpr c3
  subst c3
  have H1:(some false)=some r:=by rw [if_neg (show ¬ (false=true) by decide)] at H;exact H
  clear H
  have H:=H1
  clear H1
  obtain rfl:=sj_ H
  go_enter Tryd.func30,Tryd.ntmps30
  go_wp2_with (first|((with_reducible refine gD_ (N:=1) rfl ?_);refine bx_ 1 (#[.int .i64 a0_0,.int .i64 a0_1,.int .i64 a0_2,.int .i64 a0_3,.int .i64 a0_4,.int .i64 a0_5,.string a0_6]) 44 ?_;intro gb421 hg w22 hbox hb;have n0_:=a_ (bS_ (bel_) hb);have n1_:=a_ (hbox);have n2_:=a_ ((by rw [hg];exact (below_size (bel_)):w.heap.size≤gb421));have n3_:=a_ ((by rw [hg];exact (below_size (bel_)):w.heap.size≤gb421));clear HB;have HB:=n0_;have BK421:=n1_;have GW421:=n2_;have GE421:=n3_;clear n0_ n1_ n2_ n3_;clear hb hbox hg;obtain ⟨Z23_0,Z23_1,Z23_2,Z23_3,Z23_4,Z23_5,Z23_6,Y23_0,Y23_1,Y23_2,Y23_3,Y23_4,Y23_5,Y23_6⟩:=op7_ BK421.out)|((with_reducible refine gC_ (f:=75) rfl ?_);refine gl_ 5 Tryd.func75 #[.int .i64 a0_0,.int .i64 1,.int .i64 3] ?_;(with_reducible refine (spec_l6In.calls a0_0 1 3 false _ A2.out).mono ?_);rintro e w' ⟨rfl,⟨nd,rfl⟩⟩;refine ⟨_,rfl,?_⟩))
  go_ret
  exact ⟨fi_,bel_⟩

end Go.Proofs.YtdpklbomhdpimaaDoor.P
namespace Go.Proofs.YtdpklbomhdpimaaDoor.P
open Go.RowKit Go.Proofs.YtdpklbomhdpimaaDoorW.PrintWords Go.Proofs.YtdpklbomhdpimaaDoorW.PrintLast Go.Proofs.YtdpklbomhdpimaaDoorW.PrintMore
theorem fin_ {P:Program} {ops:Array Oper} {Q:Exit→Act→World→Prop} {md:Region.Mode} {S:World→Prop} {ds:List Nat} {i:Nat} {N:Option Tmp} {oi:Oper} {fuel:Nat} {l:Array Bool} {a:Act} {w:World} (l':Array Bool) (hi:ops[i]?=some oi) (hN:oi.dst=N) (hc:readyB md ops l l' i=true) (hd:i∈ds)
  (h:∀ K:Act→World→Prop,(∀ a' w',wpAnyLast P md ops Q S ds fuel l' a' w'→K a' w')→if Region.wanted oi (yielded ops a.tmps)=true then Oper.wp P oi a w K Q else K (a.put N undef) w) :
  wpAnyLast P md ops Q S ds (fuel+1) l a w:=by
 subst hN
 simp only [readyB,Bool.and_eq_true,beq_iff_eq] at hc
 obtain ⟨h1,h2⟩:=hc
 subst h2
 refine wpAnyLast_ready h1 (by simp) (fun j hj=>?_)
 rcases List.mem_singleton.1 hj with rfl
 exact wpOp_step hi (fun K' hK=>h K' (fun a w hW=>hK a w ⟨fun hn=>absurd hd hn,hW⟩))
def fallAt (n:Nat) (safe left:Int):Int:=if (n:Int) < wrap64 (safe+left) then n else wrap64 (safe+left)
theorem fallAt_le (n:Nat) (safe left:Int):fallAt n safe left≤n:=by unfold fallAt;split <;> omega
def impl_ServerFall.f (k:Nat) (l0_0:List S44) (a0_1:Int) (a0_2:Bool) (a1:Int):Option (List S44×Int×Bool) :=
 (impl_ServerOk.f k l0_0 a0_1 a0_2).bind fun t=>if t=true then (if a1 < 0 then some ([],0,false) else if a1 > 40 then some ([],0,false) else
  if l0_0.length < 2199023255552 then (if 0≤fallAt l0_0.length a0_1 a1 then some (l0_0.take (fallAt l0_0.length a0_1 a1).toNat,a0_1,a0_2) else none) else none) else some ([],0,false)
theorem impl_ServerFall.mono (l0_0:List S44) (a0_1:Int) (a0_2:Bool) (a1:Int) (k:Nat):LeO (impl_ServerFall.f k l0_0 a0_1 a0_2 a1) (impl_ServerFall.f (k+1) l0_0 a0_1 a0_2 a1):=by
 unfold impl_ServerFall.f
 exact LeO.bind (impl_ServerOk.mono _ _ _ _) (fun _=>LeO.refl _)
theorem impl_ServerFall.calls (k:Nat) (A0_0:Option Addr) (c0_0:Nat) (l0_0:List S44) (a0_1:Int) (a0_2:Bool) (a1:Int) (r1:List S44) (r2:Int) (r3:Bool) (w:World) (hr0_0:Kd.C k44 w A0_0 l0_0.length l0_0) (hc0_0:l0_0.length≤c0_0) (h:impl_ServerFall.f k l0_0 a0_1 a0_2 a1=some (r1,r2,r3)) (hG:Glob w) :
  Calls Tryd.prog 35 #[.agg #[.slice A0_0 l0_0.length c0_0,.int .i64 a0_1,.bool a0_2],.int .i64 a1] w fun e w'=>∃ v0_:Value,e=.returned (.agg #[v0_,.int .i64 r2,.bool r3])∧Kd.R k44 44 w' w.heap.size (fun _=>True) v0_ r1∧Below w.heap.size w w':=by
 have HR0:=a_ hr0_0
 have HC0:=a_ hc0_0
 have HG:=a_ hG
 clear hr0_0 hc0_0 hG
 have hu1:=Tryd.underlying25
 have hu2:=Tryd.underlying107
 have hu3:=Tryd.underlying103
 unfold impl_ServerFall.f at h
 obtain ⟨t,ht,h⟩:=Option.bind_eq_some_iff.1 h
 have HT:=a_ ht
 clear ht
 cases t with
 | false =>
  simp only [Bool.false_eq_true,if_false,Option.some.injEq,Prod.mk.injEq] at h
  obtain ⟨rfl,rfl,rfl⟩:=h
  go_enter Tryd.func35,Tryd.ntmps35
  go_wp2_with (first|((with_reducible refine gD_ (N:=2) rfl ?_);refine bx_ 2 (#[.slice A0_0 l0_0.length c0_0,.int .i64 a0_1,.bool a0_2]) 25 ?_;intro g1 hg1 w1 hbox1 hb1;have HB1:=a_ hb1;have BK1:=a_ hbox1;clear hb1 hbox1 hg1)|((with_reducible refine gD_ (N:=4) rfl ?_);refine bx_ 4 (#[.slice none 0 0,.int .i64 0,.bool false]) 25 ?_;intro g2 hg2 w2 hbox2 hb2;have BK12:=a_ (blk_below BK1.out hb2);have HB2:=a_ (bS_ HB1.out hb2);have BK2:=a_ hbox2;have GE2:=a_ (show w.heap.size≤g2 by rw [hg2];exact HB1.out.size);have LT2:=a_ (blk_lt hbox2);clear hb2 hbox2 hg2;have hx0:w2.cell? ⟨g1,0,none⟩=some (.slice A0_0 l0_0.length c0_0):=(bC_ BK12.out 0).trans rfl;have hx1:w2.cell? ⟨g1,1,none⟩=some (.int .i64 a0_1):=(bC_ BK12.out 1).trans rfl;have hx2:w2.cell? ⟨g1,2,none⟩=some (.bool a0_2):=(bC_ BK12.out 2).trans rfl)|(go_at_call 16;refine (impl_ServerOk.calls k _ _ l0_0 a0_1 a0_2 false _ (Kd.C_below HR0.out HB2.out) HC0.out HT.out (HG.out.below HB2.out)).mono ?_;rintro e w3 ⟨rfl,hb3⟩;have BK13:=a_ (blk_below BK12.out hb3);have BK23:=a_ (blk_below BK2.out hb3);have HB3:=a_ (bS_ HB2.out hb3);have LT3:=a_ (Nat.lt_of_lt_of_le LT2.out hb3.size);clear hb3;have hy0:w3.cell? ⟨g1,0,none⟩=some (.slice A0_0 l0_0.length c0_0):=(bC_ BK13.out 0).trans rfl;have hy1:w3.cell? ⟨g1,1,none⟩=some (.int .i64 a0_1):=(bC_ BK13.out 1).trans rfl;have hy2:w3.cell? ⟨g1,2,none⟩=some (.bool a0_2):=(bC_ BK13.out 2).trans rfl;have hz0:w3.cell? ⟨g2,0,none⟩=some (.slice none 0 0):=(bC_ BK23.out 0).trans rfl;have hz1:w3.cell? ⟨g2,1,none⟩=some (.int .i64 0):=(bC_ BK23.out 1).trans rfl;have hz2:w3.cell? ⟨g2,2,none⟩=some (.bool false):=(bC_ BK23.out 2).trans rfl;have hzf0:=bF_ BK23.out 0;have hzf1:=bF_ BK23.out 1;have hzf2:=bF_ BK23.out 2))
  (try simp only [Exit.inBlock,Exit.then])
  refine bodyPost_ret (results_cell_row rfl _ _ g2 25 #[.slice none 0 0,.int .i64 0,.bool false] (0,0) _ rfl ((blk_set (blk_set (blk_set BK23.out 0 _) 1 _) 2 _).trans rfl) Tryd.underlying25 rfl (by kernel_rfl)) rfl ?_
  exact ⟨_,rfl,Kd.R_nil _ _ _ _ _,wS_ (wS_ (wS_ HB3.out GE2.out) GE2.out) GE2.out⟩
 | true =>
  rw [if_pos rfl] at h
  by_cases h1:a1 < 0
  ·rw [if_pos h1] at h
   simp only [Option.some.injEq,Prod.mk.injEq] at h
   obtain ⟨rfl,rfl,rfl⟩:=h
   have hd1:decide (a1 < 0)=true:=dt_ h1
   clear h1
   go_enter Tryd.func35,Tryd.ntmps35
   go_wp2_with (first|((with_reducible refine gD_ (N:=2) rfl ?_);refine bx_ 2 (#[.slice A0_0 l0_0.length c0_0,.int .i64 a0_1,.bool a0_2]) 25 ?_;intro g1 hg1 w1 hbox1 hb1;have HB1:=a_ hb1;have BK1:=a_ hbox1;clear hb1 hbox1 hg1)|((with_reducible refine gD_ (N:=4) rfl ?_);refine bx_ 4 (#[.slice none 0 0,.int .i64 0,.bool false]) 25 ?_;intro g2 hg2 w2 hbox2 hb2;have BK12:=a_ (blk_below BK1.out hb2);have HB2:=a_ (bS_ HB1.out hb2);have BK2:=a_ hbox2;have GE2:=a_ (show w.heap.size≤g2 by rw [hg2];exact HB1.out.size);have LT2:=a_ (blk_lt hbox2);clear hb2 hbox2 hg2;have hx0:w2.cell? ⟨g1,0,none⟩=some (.slice A0_0 l0_0.length c0_0):=(bC_ BK12.out 0).trans rfl;have hx1:w2.cell? ⟨g1,1,none⟩=some (.int .i64 a0_1):=(bC_ BK12.out 1).trans rfl;have hx2:w2.cell? ⟨g1,2,none⟩=some (.bool a0_2):=(bC_ BK12.out 2).trans rfl)|(go_at_call 16;refine (impl_ServerOk.calls k _ _ l0_0 a0_1 a0_2 true _ (Kd.C_below HR0.out HB2.out) HC0.out HT.out (HG.out.below HB2.out)).mono ?_;rintro e w3 ⟨rfl,hb3⟩;have BK13:=a_ (blk_below BK12.out hb3);have BK23:=a_ (blk_below BK2.out hb3);have HB3:=a_ (bS_ HB2.out hb3);have LT3:=a_ (Nat.lt_of_lt_of_le LT2.out hb3.size);clear hb3;have hy0:w3.cell? ⟨g1,0,none⟩=some (.slice A0_0 l0_0.length c0_0):=(bC_ BK13.out 0).trans rfl;have hy1:w3.cell? ⟨g1,1,none⟩=some (.int .i64 a0_1):=(bC_ BK13.out 1).trans rfl;have hy2:w3.cell? ⟨g1,2,none⟩=some (.bool a0_2):=(bC_ BK13.out 2).trans rfl;have hz0:w3.cell? ⟨g2,0,none⟩=some (.slice none 0 0):=(bC_ BK23.out 0).trans rfl;have hz1:w3.cell? ⟨g2,1,none⟩=some (.int .i64 0):=(bC_ BK23.out 1).trans rfl;have hz2:w3.cell? ⟨g2,2,none⟩=some (.bool false):=(bC_ BK23.out 2).trans rfl;have hzf0:=bF_ BK23.out 0;have hzf1:=bF_ BK23.out 1;have hzf2:=bF_ BK23.out 2))
   (try simp only [Exit.inBlock,Exit.then])
   refine bodyPost_ret (results_cell_row rfl _ _ g2 25 #[.slice none 0 0,.int .i64 0,.bool false] (0,0) _ rfl ((blk_set (blk_set (blk_set BK23.out 0 _) 1 _) 2 _).trans rfl) Tryd.underlying25 rfl (by kernel_rfl)) rfl ?_
   exact ⟨_,rfl,Kd.R_nil _ _ _ _ _,wS_ (wS_ (wS_ HB3.out GE2.out) GE2.out) GE2.out⟩
  ·rw [if_neg h1] at h
   have hd1:decide (a1 < 0)=false:=df_ h1
   by_cases h2:a1 > 40
   ·rw [if_pos h2] at h
    simp only [Option.some.injEq,Prod.mk.injEq] at h
    obtain ⟨rfl,rfl,rfl⟩:=h
    have hd2:decide (40 < a1)=true:=dt_ h2
    clear h1 h2
    go_enter Tryd.func35,Tryd.ntmps35
    go_wp2_with (first|((with_reducible refine gD_ (N:=2) rfl ?_);refine bx_ 2 (#[.slice A0_0 l0_0.length c0_0,.int .i64 a0_1,.bool a0_2]) 25 ?_;intro g1 hg1 w1 hbox1 hb1;have HB1:=a_ hb1;have BK1:=a_ hbox1;clear hb1 hbox1 hg1)|((with_reducible refine gD_ (N:=4) rfl ?_);refine bx_ 4 (#[.slice none 0 0,.int .i64 0,.bool false]) 25 ?_;intro g2 hg2 w2 hbox2 hb2;have BK12:=a_ (blk_below BK1.out hb2);have HB2:=a_ (bS_ HB1.out hb2);have BK2:=a_ hbox2;have GE2:=a_ (show w.heap.size≤g2 by rw [hg2];exact HB1.out.size);have LT2:=a_ (blk_lt hbox2);clear hb2 hbox2 hg2;have hx0:w2.cell? ⟨g1,0,none⟩=some (.slice A0_0 l0_0.length c0_0):=(bC_ BK12.out 0).trans rfl;have hx1:w2.cell? ⟨g1,1,none⟩=some (.int .i64 a0_1):=(bC_ BK12.out 1).trans rfl;have hx2:w2.cell? ⟨g1,2,none⟩=some (.bool a0_2):=(bC_ BK12.out 2).trans rfl)|(go_at_call 16;refine (impl_ServerOk.calls k _ _ l0_0 a0_1 a0_2 true _ (Kd.C_below HR0.out HB2.out) HC0.out HT.out (HG.out.below HB2.out)).mono ?_;rintro e w3 ⟨rfl,hb3⟩;have BK13:=a_ (blk_below BK12.out hb3);have BK23:=a_ (blk_below BK2.out hb3);have HB3:=a_ (bS_ HB2.out hb3);have LT3:=a_ (Nat.lt_of_lt_of_le LT2.out hb3.size);clear hb3;have hy0:w3.cell? ⟨g1,0,none⟩=some (.slice A0_0 l0_0.length c0_0):=(bC_ BK13.out 0).trans rfl;have hy1:w3.cell? ⟨g1,1,none⟩=some (.int .i64 a0_1):=(bC_ BK13.out 1).trans rfl;have hy2:w3.cell? ⟨g1,2,none⟩=some (.bool a0_2):=(bC_ BK13.out 2).trans rfl;have hz0:w3.cell? ⟨g2,0,none⟩=some (.slice none 0 0):=(bC_ BK23.out 0).trans rfl;have hz1:w3.cell? ⟨g2,1,none⟩=some (.int .i64 0):=(bC_ BK23.out 1).trans rfl;have hz2:w3.cell? ⟨g2,2,none⟩=some (.bool false):=(bC_ BK23.out 2).trans rfl;have hzf0:=bF_ BK23.out 0;have hzf1:=bF_ BK23.out 1;have hzf2:=bF_ BK23.out 2))
    (try simp only [Exit.inBlock,Exit.then])
    refine bodyPost_ret (results_cell_row rfl _ _ g2 25 #[.slice none 0 0,.int .i64 0,.bool false] (0,0) _ rfl ((blk_set (blk_set (blk_set BK23.out 0 _) 1 _) 2 _).trans rfl) Tryd.underlying25 rfl (by kernel_rfl)) rfl ?_
    exact ⟨_,rfl,Kd.R_nil _ _ _ _ _,wS_ (wS_ (wS_ HB3.out GE2.out) GE2.out) GE2.out⟩
   ·rw [if_neg h2] at h
    have hd2:decide (40 < a1)=false:=df_ h2
    by_cases hl:l0_0.length < 2199023255552
    ·rw [if_pos hl] at h
     have LM:=a_ hl
     clear hl
     by_cases hm:0≤fallAt l0_0.length a0_1 a1
     ·rw [if_pos hm] at h
      simp only [Option.some.injEq,Prod.mk.injEq] at h
      obtain ⟨rfl,rfl,rfl⟩:=h
      have HM:=a_ hm
      clear h1 h2 hm
      go_enter Tryd.func35,Tryd.ntmps35
      go_wp2_with (first|((with_reducible refine gD_ (N:=2) rfl ?_);refine bx_ 2 (#[.slice A0_0 l0_0.length c0_0,.int .i64 a0_1,.bool a0_2]) 25 ?_;intro g1 hg1 w1 hbox1 hb1;have HB1:=a_ hb1;have BK1:=a_ hbox1;clear hb1 hbox1 hg1)|((with_reducible refine gD_ (N:=4) rfl ?_);refine bx_ 4 (#[.slice none 0 0,.int .i64 0,.bool false]) 25 ?_;intro g2 hg2 w2 hbox2 hb2;have BK12:=a_ (blk_below BK1.out hb2);have HB2:=a_ (bS_ HB1.out hb2);have BK2:=a_ hbox2;have GE2:=a_ (show w.heap.size≤g2 by rw [hg2];exact HB1.out.size);have LT2:=a_ (blk_lt hbox2);clear hb2 hbox2 hg2;have hx0:w2.cell? ⟨g1,0,none⟩=some (.slice A0_0 l0_0.length c0_0):=(bC_ BK12.out 0).trans rfl;have hx1:w2.cell? ⟨g1,1,none⟩=some (.int .i64 a0_1):=(bC_ BK12.out 1).trans rfl;have hx2:w2.cell? ⟨g1,2,none⟩=some (.bool a0_2):=(bC_ BK12.out 2).trans rfl)|(go_at_call 16;refine (impl_ServerOk.calls k _ _ l0_0 a0_1 a0_2 true _ (Kd.C_below HR0.out HB2.out) HC0.out HT.out (HG.out.below HB2.out)).mono ?_;rintro e w3 ⟨rfl,hb3⟩;have BK13:=a_ (blk_below BK12.out hb3);have BK23:=a_ (blk_below BK2.out hb3);have HB3:=a_ (bS_ HB2.out hb3);have LT3:=a_ (Nat.lt_of_lt_of_le LT2.out hb3.size);clear hb3;have hy0:w3.cell? ⟨g1,0,none⟩=some (.slice A0_0 l0_0.length c0_0):=(bC_ BK13.out 0).trans rfl;have hy1:w3.cell? ⟨g1,1,none⟩=some (.int .i64 a0_1):=(bC_ BK13.out 1).trans rfl;have hy2:w3.cell? ⟨g1,2,none⟩=some (.bool a0_2):=(bC_ BK13.out 2).trans rfl;have hz0:w3.cell? ⟨g2,0,none⟩=some (.slice none 0 0):=(bC_ BK23.out 0).trans rfl;have hz1:w3.cell? ⟨g2,1,none⟩=some (.int .i64 0):=(bC_ BK23.out 1).trans rfl;have hz2:w3.cell? ⟨g2,2,none⟩=some (.bool false):=(bC_ BK23.out 2).trans rfl;have hzf0:=bF_ BK23.out 0;have hzf1:=bF_ BK23.out 1;have hzf2:=bF_ BK23.out 2)|(go_at_call 79;refine (impl_machineOf.calls _ _ l0_0 a0_1 a0_2 _ (Kd.C_below HR0.out HB3.out) HC0.out LM.out).mono ?_;rintro e w4 ⟨g,rfl,⟨A4,c4,hk4,hr4,hge4⟩,hb4⟩;have HK4:=a_ hk4;have HRR4:=a_ hr4;have GE4:=a_ (Nat.le_trans HB3.out.size hge4);have NE4:=a_ (show g2≠g by have:=LT3.out;omega);have BK24:=a_ (blk_below BK23.out hb4);have HB4:=a_ (bS_ HB3.out hb4);clear hb4 hk4 hr4 hge4))
      have hmin:(if (l0_0.length:Int) < wrap64 (a0_1+a1) then (l0_0.length:Int) else wrap64 (a0_1+a1))=fallAt l0_0.length a0_1 a1:=rfl
      have hle:=fallAt_le l0_0.length a0_1 a1
      have hm0:=HM.out
      generalize hme:fallAt l0_0.length a0_1 a1=m at hmin hle hm0 ⊢
      have HME:=a_ hme
      clear hme
      obtain ⟨_,hc4,_⟩:=Kd.R_reads' HRR4.out
      have hm1:m≤(c4:Int):=by omega
      have HLE:=a_ (show m.toNat≤l0_0.length from by omega)
      have hm0:=eq_true hm0
      have hm1:=eq_true hm1
      have HKd:=a_ (bD_ HK4.out)
      have HRd:=a_ (Kd.R_drew HRR4.out)
      have BKd:=a_ (bD_ BK24.out)
      have HBd:=a_ (below_drew1 HB4.out)
      clear hle hc4
      refine start_ (n:=24) (S:=fun w'=>w'.cell? ⟨g,0,none⟩=some (.slice A4 l0_0.length c4)∧w'.cell? ⟨g,2,none⟩=some (.int .i64 a0_1)) (ds:=[23]) #[false,false,false,false,false,false,false,false,false,false,false,false,false,false,false,false,false,false,false,false,false,false,false,false] (by kernel_rfl) rfl rfl ⟨(bC_ HK4.out 0).trans rfl,(bC_ HK4.out 2).trans rfl⟩ (fun hHeld=>?_)
      refine pure_ (i:=0) (N:=some 20) (v:=?_) (a':=?_) #[true,false,false,false,false,false,false,false,false,false,false,false,false,false,false,false,false,false,false,false,false,false,false,false] rfl rfl (by kernel_rfl) (fun _ _ _ h=>h) (Or.inl ⟨by rfl,?_⟩) ?_ ?_
      rotate_left
      ·intro w'
       go_simp
       with_reducible rfl
      rotate_left
      ·simp only [Act.put,List.setIfInBounds_toArray,List.set_cons_zero,List.set_cons_succ,i64_w,i32_w]
       rfl
      refine pure_ (i:=1) (N:=some 21) (v:=?_) (a':=?_) #[true,true,false,false,false,false,false,false,false,false,false,false,false,false,false,false,false,false,false,false,false,false,false,false] rfl rfl (by kernel_rfl) (fun _ _ _ h=>h) (Or.inl ⟨by rfl,?_⟩) ?_ ?_
      rotate_left
      ·intro w'
       go_simp
       with_reducible rfl
      rotate_left
      ·simp only [Act.put,List.setIfInBounds_toArray,List.set_cons_zero,List.set_cons_succ,i64_w,i32_w]
       rfl
      refine pure_ (i:=2) (N:=some 22) (v:=?_) (a':=?_) #[true,true,true,false,false,false,false,false,false,false,false,false,false,false,false,false,false,false,false,false,false,false,false,false] rfl rfl (by kernel_rfl) (fun _ _ _ h=>h) (Or.inl ⟨by rfl,?_⟩) ?_ ?_
      rotate_left
      ·intro w'
       go_simp
       with_reducible rfl
      rotate_left
      ·simp only [Act.put,List.setIfInBounds_toArray,List.set_cons_zero,List.set_cons_succ,i64_w,i32_w]
       rfl
      refine pure_ (i:=3) (N:=some 23) (v:=?_) (a':=?_) #[true,true,true,true,false,false,false,false,false,false,false,false,false,false,false,false,false,false,false,false,false,false,false,false] rfl rfl (by kernel_rfl) (fun _ _ _ h=>h) (Or.inl ⟨by rfl,?_⟩) ?_ ?_
      rotate_left
      ·intro w'
       go_simp
       with_reducible rfl
      rotate_left
      ·simp only [Act.put,List.setIfInBounds_toArray,List.set_cons_zero,List.set_cons_succ,i64_w,i32_w]
       rfl
      refine pure_ (i:=4) (N:=some 24) (v:=?_) (a':=?_) #[true,true,true,true,true,false,false,false,false,false,false,false,false,false,false,false,false,false,false,false,false,false,false,false] rfl rfl (by kernel_rfl) (fun _ _ _ h=>h) (Or.inl ⟨by rfl,?_⟩) ?_ ?_
      rotate_left
      ·intro w'
       go_simp
       with_reducible rfl
      rotate_left
      ·simp only [Act.put,List.setIfInBounds_toArray,List.set_cons_zero,List.set_cons_succ,i64_w,i32_w]
       rfl
      refine take_ (i:=5) (N:=some 25) (v:=?_) (a':=?_) #[true,true,true,true,true,true,false,false,false,false,false,false,false,false,false,false,false,false,false,false,false,false,false,false] rfl rfl (by kernel_rfl) (fun _ _ _ h=>h) (Or.inl ⟨by rfl,?_⟩) hHeld ?_ ?_
      rotate_left
      ·rintro w' ⟨s0,s1⟩
       go_simp
       with_reducible rfl
      rotate_left
      ·simp only [Act.put,List.setIfInBounds_toArray,List.set_cons_zero,List.set_cons_succ,i64_w,i32_w]
       rfl
      refine pure_ (i:=6) (N:=some 26) (v:=?_) (a':=?_) #[true,true,true,true,true,true,true,false,false,false,false,false,false,false,false,false,false,false,false,false,false,false,false,false] rfl rfl (by kernel_rfl) (fun _ _ _ h=>h) (Or.inl ⟨by rfl,?_⟩) ?_ ?_
      rotate_left
      ·intro w'
       go_simp
       with_reducible rfl
      rotate_left
      ·simp only [Act.put,List.setIfInBounds_toArray,List.set_cons_zero,List.set_cons_succ,i64_w,i32_w]
       rfl
      refine pure_ (i:=7) (N:=some 27) (v:=?_) (a':=?_) #[true,true,true,true,true,true,true,true,false,false,false,false,false,false,false,false,false,false,false,false,false,false,false,false] rfl rfl (by kernel_rfl) (fun _ _ _ h=>h) (Or.inl ⟨by rfl,?_⟩) ?_ ?_
      rotate_left
      ·intro w'
       go_simp
       with_reducible rfl
      rotate_left
      ·simp only [Act.put,List.setIfInBounds_toArray,List.set_cons_zero,List.set_cons_succ,i64_w,i32_w]
       rfl
      refine pure_ (i:=8) (N:=some 28) (v:=?_) (a':=?_) #[true,true,true,true,true,true,true,true,true,false,false,false,false,false,false,false,false,false,false,false,false,false,false,false] rfl rfl (by kernel_rfl) (fun _ _ _ h=>h) (Or.inl ⟨by rfl,?_⟩) ?_ ?_
      rotate_left
      ·intro w'
       go_simp
       with_reducible rfl
      rotate_left
      ·simp only [Act.put,List.setIfInBounds_toArray,List.set_cons_zero,List.set_cons_succ,i64_w,i32_w]
       rfl
      refine take_ (i:=9) (N:=some 29) (v:=?_) (a':=?_) #[true,true,true,true,true,true,true,true,true,true,false,false,false,false,false,false,false,false,false,false,false,false,false,false] rfl rfl (by kernel_rfl) (fun _ _ _ h=>h) (Or.inl ⟨by rfl,?_⟩) hHeld ?_ ?_
      rotate_left
      ·rintro w' ⟨s0,s1⟩
       go_simp
       with_reducible rfl
      rotate_left
      ·simp only [Act.put,List.setIfInBounds_toArray,List.set_cons_zero,List.set_cons_succ,i64_w,i32_w]
       rfl
      refine pure_ (i:=10) (N:=some 30) (v:=?_) (a':=?_) #[true,true,true,true,true,true,true,true,true,true,true,false,false,false,false,false,false,false,false,false,false,false,false,false] rfl rfl (by kernel_rfl) (fun _ _ _ h=>h) (Or.inl ⟨by rfl,?_⟩) ?_ ?_
      rotate_left
      ·intro w'
       go_simp
       with_reducible rfl
      rotate_left
      ·simp only [Act.put,List.setIfInBounds_toArray,List.set_cons_zero,List.set_cons_succ,i64_w,i32_w]
       rfl
      refine pure_ (i:=11) (N:=some 31) (v:=?_) (a':=?_) #[true,true,true,true,true,true,true,true,true,true,true,true,false,false,false,false,false,false,false,false,false,false,false,false] rfl rfl (by kernel_rfl) (fun _ _ _ h=>h) (Or.inl ⟨by rfl,?_⟩) ?_ ?_
      rotate_left
      ·intro w'
       go_simp
       with_reducible rfl
      rotate_left
      ·simp only [Act.put,List.setIfInBounds_toArray,List.set_cons_zero,List.set_cons_succ,i64_w,i32_w]
       rfl
      refine pure_ (i:=12) (N:=some 32) (v:=?_) (a':=?_) #[true,true,true,true,true,true,true,true,true,true,true,true,true,false,false,false,false,false,false,false,false,false,false,false] rfl rfl (by kernel_rfl) (fun _ _ _ h=>h) (Or.inl ⟨by rfl,?_⟩) ?_ ?_
      rotate_left
      ·intro w'
       go_simp
       with_reducible rfl
      rotate_left
      ·simp only [Act.put,List.setIfInBounds_toArray,List.set_cons_zero,List.set_cons_succ,i64_w,i32_w]
       rfl
      refine pure_ (i:=13) (N:=some 33) (v:=?_) (a':=?_) #[true,true,true,true,true,true,true,true,true,true,true,true,true,true,false,false,false,false,false,false,false,false,false,false] rfl rfl (by kernel_rfl) (fun _ _ _ h=>h) (Or.inl ⟨by rfl,?_⟩) ?_ ?_
      rotate_left
      ·intro w'
       go_simp
       with_reducible rfl
      rotate_left
      ·simp only [Act.put,List.setIfInBounds_toArray,List.set_cons_zero,List.set_cons_succ,i64_w,i32_w]
       rfl
      refine pure_ (i:=14) (N:=some 34) (v:=?_) (a':=?_) #[true,true,true,true,true,true,true,true,true,true,true,true,true,true,true,false,false,false,false,false,false,false,false,false] rfl rfl (by kernel_rfl) (fun _ _ _ h=>h) (Or.inl ⟨by rfl,?_⟩) ?_ ?_
      rotate_left
      ·intro w'
       go_simp
       with_reducible rfl
      rotate_left
      ·simp only [Act.put,List.setIfInBounds_toArray,List.set_cons_zero,List.set_cons_succ,i64_w,i32_w]
       rfl
      refine pure_ (i:=15) (N:=some 35) (v:=?_) (a':=?_) #[true,true,true,true,true,true,true,true,true,true,true,true,true,true,true,true,false,false,false,false,false,false,false,false] rfl rfl (by kernel_rfl) (fun _ _ _ h=>h) (Or.inl ⟨by rfl,?_⟩) ?_ ?_
      rotate_left
      ·intro w'
       go_simp
       with_reducible rfl
      rotate_left
      ·simp only [Act.put,List.setIfInBounds_toArray,List.set_cons_zero,List.set_cons_succ,i64_w,i32_w]
       rfl
      refine take_ (i:=16) (N:=some 36) (v:=?_) (a':=?_) #[true,true,true,true,true,true,true,true,true,true,true,true,true,true,true,true,true,false,false,false,false,false,false,false] rfl rfl (by kernel_rfl) (fun _ _ _ h=>h) (Or.inl ⟨by rfl,?_⟩) hHeld ?_ ?_
      rotate_left
      ·rintro w' ⟨s0,s1⟩
       go_simp
       with_reducible rfl
      rotate_left
      ·simp only [Act.put,List.setIfInBounds_toArray,List.set_cons_zero,List.set_cons_succ,i64_w,i32_w]
       rfl
      refine pure_ (i:=17) (N:=some 37) (v:=?_) (a':=?_) #[true,true,true,true,true,true,true,true,true,true,true,true,true,true,true,true,true,true,false,false,false,false,false,false] rfl rfl (by kernel_rfl) (fun _ _ _ h=>h) (Or.inl ⟨by rfl,?_⟩) ?_ ?_
      rotate_left
      ·intro w'
       go_simp
       with_reducible rfl
      rotate_left
      ·simp only [Act.put,List.setIfInBounds_toArray,List.set_cons_zero,List.set_cons_succ,i64_w,i32_w]
       rfl
      refine pure_ (i:=18) (N:=some 38) (v:=?_) (a':=?_) #[true,true,true,true,true,true,true,true,true,true,true,true,true,true,true,true,true,true,true,false,false,false,false,false] rfl rfl (by kernel_rfl) (fun _ _ _ h=>h) (Or.inl ⟨by rfl,?_⟩) ?_ ?_
      rotate_left
      ·intro w'
       go_simp
       with_reducible rfl
      rotate_left
      ·simp only [Act.put,List.setIfInBounds_toArray,List.set_cons_zero,List.set_cons_succ,i64_w,i32_w]
       rfl
      refine pure_ (i:=19) (N:=some 39) (v:=?_) (a':=?_) #[true,true,true,true,true,true,true,true,true,true,true,true,true,true,true,true,true,true,true,true,false,false,false,false] rfl rfl (by kernel_rfl) (fun _ _ _ h=>h) (Or.inl ⟨by rfl,?_⟩) ?_ ?_
      rotate_left
      ·intro w'
       go_simp
       with_reducible rfl
      rotate_left
      ·simp only [Act.put,List.setIfInBounds_toArray,List.set_cons_zero,List.set_cons_succ,i64_w,i32_w]
       rfl
      refine pure_ (i:=20) (N:=some 40) (v:=?_) (a':=?_) #[true,true,true,true,true,true,true,true,true,true,true,true,true,true,true,true,true,true,true,true,true,false,false,false] rfl rfl (by kernel_rfl) (fun _ _ _ h=>h) (Or.inl ⟨by rfl,?_⟩) ?_ ?_
      rotate_left
      ·intro w'
       go_simp
       with_reducible rfl
      rotate_left
      ·simp only [Act.put,List.setIfInBounds_toArray,List.set_cons_zero,List.set_cons_succ,i64_w,i32_w]
       rfl
      refine pure_ (i:=21) (N:=some 41) (v:=?_) (a':=?_) #[true,true,true,true,true,true,true,true,true,true,true,true,true,true,true,true,true,true,true,true,true,true,false,false] rfl rfl (by kernel_rfl) (fun _ _ _ h=>h) (Or.inl ⟨by rfl,?_⟩) ?_ ?_
      rotate_left
      ·intro w'
       go_simp
       with_reducible rfl
      rotate_left
      ·simp only [Act.put,List.setIfInBounds_toArray,List.set_cons_zero,List.set_cons_succ,i64_w,i32_w]
       rfl
      refine pure_ (i:=22) (N:=some 42) (v:=?_) (a':=?_) #[true,true,true,true,true,true,true,true,true,true,true,true,true,true,true,true,true,true,true,true,true,true,true,false] rfl rfl (by kernel_rfl) (fun _ _ _ h=>h) (Or.inl ⟨by rfl,?_⟩) ?_ ?_
      rotate_left
      ·intro w'
       go_simp
       with_reducible rfl
      rotate_left
      ·simp only [Act.put,List.setIfInBounds_toArray,List.set_cons_zero,List.set_cons_succ,i64_w,i32_w]
       rfl
      refine fin_ (i:=23) (N:=none) #[true,true,true,true,true,true,true,true,true,true,true,true,true,true,true,true,true,true,true,true,true,true,true,true] rfl rfl (by kernel_rfl) (by decide) (fun K hK=>?_)
      generalize w4.drew=w5 at HKd HRd BKd HBd ⊢
      have hs5:w5.cell? ⟨g,0,none⟩=some (.slice A4 l0_0.length c4):=(bC_ HKd.out 0).trans rfl
      have hfs5:=bF_ HKd.out 0
      refine skip_ (w1:=?_) (by rfl) rfl ?_ ?_
      rotate_left
      ·go_simp
       rfl
      refine hK _ _ ?_
      clear hK K
      refine done_ (by kernel_rfl) ?_
      have HKe:=a_ ((blk_set HKd.out 0 (.slice A4 m.toNat c4)).trans rfl)
      have HRe:=a_ (Kd.R_far HRd.out (p:=⟨g,0,none⟩) (fun _ hk=>hk) (.slice A4 m.toNat c4))
      have BKe:=a_ (blk_far BKd.out (p:=⟨g,0,none⟩) NE4.out (.slice A4 m.toNat c4))
      have HBe:=a_ (wS_ (j:=0) (v:=.slice A4 m.toNat c4) HBd.out GE4.out)
      generalize w5.setCell ⟨g,0,none⟩ (.slice A4 m.toNat c4)=W5 at HKe HRe BKe HBe ⊢
      obtain ⟨_,hc4,hrd⟩:=Kd.R_reads' HRe.out
      have hlen:(l0_0.take m.toNat).length=m.toNat:=by rw [List.length_take];have:=HLE.out;omega
      have hct:=Kd.C_take hrd HLE.out
      have HCT:=a_ hct
      have hbk:=HKe.out
      rw [←hlen] at hbk
      have HBK:=a_ (hbk.trans rfl:W5.heap[g]?=some (.cells #[.slice A4 (l0_0.take m.toNat).length c4,.slice none 0 0,.int .i64 a0_1,.bool a0_2] 107 (0,0)))
      have HC4:=a_ (show (l0_0.take m.toNat).length≤c4 by rw [hlen];have:=HLE.out;omega)
      have HLT:=a_ (show (l0_0.take m.toNat).length < 2199023255552 by rw [hlen];have:=HLE.out;have:=LM.out;omega)
      clear hct hrd hc4 hbk hlen hmin hm0 hm1
      go_wp2_with (go_at_call 82;refine (impl_mserver.callsC g A4 c4 (l0_0.take m.toNat) _ a0_1 a0_2 _ HBK.out HCT.out HC4.out HLT.out).mono ?_;rintro e w6 ⟨v6,rfl,ho6,hb6⟩;obtain ⟨A6,c6,rfl⟩:=Kd.R_slice ho6;have HO6:=a_ (Kd.R_newB ho6 BKe.out);have HB6:=a_ (bS_ HBe.out hb6);have BK6:=a_ (blk_below BKe.out hb6);clear ho6 hb6;have hz0:w6.cell? ⟨g2,0,none⟩=some (.slice none 0 0):=(bC_ BK6.out 0).trans rfl;have hz1:w6.cell? ⟨g2,1,none⟩=some (.int .i64 0):=(bC_ BK6.out 1).trans rfl;have hz2:w6.cell? ⟨g2,2,none⟩=some (.bool false):=(bC_ BK6.out 2).trans rfl;have hzf0:=bF_ BK6.out 0;have hzf1:=bF_ BK6.out 1;have hzf2:=bF_ BK6.out 2)
      (try simp only [Exit.inBlock,Exit.then])
      refine bodyPost_ret (results_cell_row rfl _ _ g2 25 #[.slice A6 (min m.toNat l0_0.length) c6,.int .i64 a0_1,.bool a0_2] (0,0) _ rfl ((blk_set (blk_set (blk_set BK6.out 0 _) 1 _) 2 _).trans rfl) Tryd.underlying25 rfl (by kernel_rfl)) rfl ?_
      refine ⟨_,rfl,?_,wS_ (wS_ (wS_ HB6.out GE2.out) GE2.out) GE2.out⟩
      have ho:=HO6.out
      rw [List.length_take] at ho
      rw [HME.out]
      exact Kd.R_mono (Kd.R_far (Kd.R_far (Kd.R_far (Kd.R_lower ho HBe.out.size) (p:=⟨g2,0,none⟩) (fun _ hk=>hk.2) _) (p:=⟨g2,1,none⟩) (fun _ hk=>hk.2) _) (p:=⟨g2,2,none⟩) (fun _ hk=>hk.2) _) (fun _ _=>trivial)
     ·rw [if_neg hm] at h
      cases h
    ·rw [if_neg hl] at h
     cases h
def Keep (g:Nat) (w w':World):Prop:=Below g w w'∧KeepBut w w' g none
theorem Keep.of_below {g:Nat} {w w':World} (h:Below w.heap.size w w') (hg:g≤w.heap.size):Keep g w w':=⟨⟨h.os,h.tape,h.output,h.size,fun k hk=>h.block k (by omega)⟩,KeepBut.of_below h g none⟩
theorem Keep.trans {g:Nat} {w w1 w2:World} (h:Keep g w w1) (k:Keep g w1 w2):Keep g w w2 :=
 ⟨⟨k.1.os.trans h.1.os,k.1.tape.trans h.1.tape,k.1.output.trans h.1.output,Nat.le_trans h.1.size k.1.size,fun i hi=>(k.1.block i hi).trans (h.1.block i hi)⟩,h.2.trans k.2 (.inl rfl)⟩
theorem Keep.set {g:Nat} {w w1:World} (h:Keep g w w1) (j:Nat) (v:Value):Keep g w (w1.setCell ⟨g,j,none⟩ v):=⟨h.1.setCell (p:=⟨g,j,none⟩) (Nat.le_refl _) v,h.2.set_ j v⟩
theorem Keep.far {g:Nat} {w w1:World} (h:Keep g w w1) {p:Addr} (hg:g≤w.heap.size) (hp:w.heap.size≤p.block) (v:Value):Keep g w (w1.setCell p v) :=
 ⟨h.1.setCell (Nat.le_trans hg hp) v,keep_far h.2 hp v⟩
theorem Keep.drewN {g:Nat} {w w1:World} (h:Keep g w w1) (m:Nat):Keep g w (w1.drewN m):=⟨⟨h.1.os,h.1.tape,h.1.output,h.1.size,h.1.block⟩,keep_drewN h.2 m⟩
theorem push_any (g:Nat) (SL:Value) (s:Int) (u:Bool) (e:S44) (w:World) (hb:w.heap[g]?=some (.cells #[SL,.slice none 0 0,.int .i64 s,.bool u] 107 (0,0))) :
  Calls Tryd.prog 80 #[.pointer (some ⟨g,1,none⟩),.agg #[.int .i64 e.f0,.int .i64 e.f1,.int .i64 e.f2.f0,.int .i64 e.f2.f1,.int .i64 e.f2.f2,.int .i64 e.f2.f3,.string e.f2.f4]] w fun x w'=>(∃ v,x=.returned v)∧∃ (A:Option Addr) (c:Nat),w'.heap[g]?=some (.cells #[SL,.slice A 1 c,.int .i64 s,.bool u] 107 (0,0))∧Kd.R k44 44 w' w.heap.size (fun k=>k≠g) (.slice A 1 c) [e]∧Keep g w w':=by
 have HBK:=a_ hb
 have HGL:=a_ (blk_lt hb)
 clear hb
 have hu1:=Tryd.underlying105
 have hu2:=Tryd.underlying44
 go_enter Tryd.func80,Tryd.ntmps80
 go_wp2_with (first|((with_reducible refine gD_ (N:=3) rfl ?_);refine bx_ 3 (#[.int .i64 e.f0,.int .i64 e.f1,.int .i64 e.f2.f0,.int .i64 e.f2.f1,.int .i64 e.f2.f2,.int .i64 e.f2.f3,.string e.f2.f4]) 44 ?_;intro g1 hg1 w1 hbox1 hb1;have HB1:=a_ hb1;have BK1:=a_ hbox1;have HBK1:=a_ (blk_below HBK.out hb1);clear hb1 hbox1 hg1))
 refine start_ (n:=11) (S:=fun w'=>w'.cell? ⟨g,1,none⟩=some (.slice none 0 0)∧w'.cell? ⟨g1,0,none⟩=some (.int .i64 e.f0)∧w'.cell? ⟨g1,1,none⟩=some (.int .i64 e.f1)∧w'.cell? ⟨g1,2,none⟩=some (.int .i64 e.f2.f0)∧w'.cell? ⟨g1,3,none⟩=some (.int .i64 e.f2.f1)∧w'.cell? ⟨g1,4,none⟩=some (.int .i64 e.f2.f2)∧w'.cell? ⟨g1,5,none⟩=some (.int .i64 e.f2.f3)∧w'.cell? ⟨g1,6,none⟩=some (.string e.f2.f4)) (ds:=[10]) #[false,false,false,false,false,false,false,false,false,false,false] (by kernel_rfl) rfl rfl ⟨(bC_ HBK1.out 1).trans rfl,(bC_ BK1.out 0).trans rfl,(bC_ BK1.out 1).trans rfl,(bC_ BK1.out 2).trans rfl,(bC_ BK1.out 3).trans rfl,(bC_ BK1.out 4).trans rfl,(bC_ BK1.out 5).trans rfl,(bC_ BK1.out 6).trans rfl⟩ (fun hHeld=>?_)
 refine pure_ (i:=0) (N:=some 4) (v:=?_) (a':=?_) #[true,false,false,false,false,false,false,false,false,false,false] rfl rfl (by kernel_rfl) (fun _ _ _ h=>h) (Or.inl ⟨by rfl,?_⟩) ?_ ?_
 rotate_left
 ·intro w'
  go_simp
  with_reducible rfl
 rotate_left
 ·simp only [Act.put,List.setIfInBounds_toArray,List.set_cons_zero,List.set_cons_succ,i64_w,i32_w]
  rfl
 refine pure_ (i:=1) (N:=some 5) (v:=?_) (a':=?_) #[true,true,false,false,false,false,false,false,false,false,false] rfl rfl (by kernel_rfl) (fun _ _ _ h=>h) (Or.inl ⟨by rfl,?_⟩) ?_ ?_
 rotate_left
 ·intro w'
  go_simp
  with_reducible rfl
 rotate_left
 ·simp only [Act.put,List.setIfInBounds_toArray,List.set_cons_zero,List.set_cons_succ,i64_w,i32_w]
  rfl
 refine pure_ (i:=2) (N:=some 6) (v:=?_) (a':=?_) #[true,true,true,false,false,false,false,false,false,false,false] rfl rfl (by kernel_rfl) (fun _ _ _ h=>h) (Or.inl ⟨by rfl,?_⟩) ?_ ?_
 rotate_left
 ·intro w'
  go_simp
  with_reducible rfl
 rotate_left
 ·simp only [Act.put,List.setIfInBounds_toArray,List.set_cons_zero,List.set_cons_succ,i64_w,i32_w]
  rfl
 refine pure_ (i:=3) (N:=some 7) (v:=?_) (a':=?_) #[true,true,true,true,false,false,false,false,false,false,false] rfl rfl (by kernel_rfl) (fun _ _ _ h=>h) (Or.inl ⟨by rfl,?_⟩) ?_ ?_
 rotate_left
 ·intro w'
  go_simp
  with_reducible rfl
 rotate_left
 ·simp only [Act.put,List.setIfInBounds_toArray,List.set_cons_zero,List.set_cons_succ,i64_w,i32_w]
  rfl
 refine take_ (i:=4) (N:=some 8) (v:=?_) (a':=?_) #[true,true,true,true,true,false,false,false,false,false,false] rfl rfl (by kernel_rfl) (fun _ _ _ h=>h) (Or.inl ⟨by rfl,?_⟩) hHeld ?_ ?_
 rotate_left
 ·rintro w' ⟨s0,s1,s2,s3,s4,s5,s6,s7⟩
  go_simp
  with_reducible rfl
 rotate_left
 ·simp only [Act.put,List.setIfInBounds_toArray,List.set_cons_zero,List.set_cons_succ,i64_w,i32_w]
  rfl
 refine take_ (i:=5) (N:=some 9) (v:=?_) (a':=?_) #[true,true,true,true,true,true,false,false,false,false,false] rfl rfl (by kernel_rfl) (fun _ _ _ h=>h) (Or.inl ⟨by rfl,?_⟩) hHeld ?_ ?_
 rotate_left
 ·rintro w' ⟨s0,s1,s2,s3,s4,s5,s6,s7⟩
  go_simp
  with_reducible rfl
 rotate_left
 ·simp only [Act.put,List.setIfInBounds_toArray,List.set_cons_zero,List.set_cons_succ,i64_w,i32_w]
  rfl
 have BKd:=a_ (bD_ BK1.out)
 have HBKd:=a_ (bD_ HBK1.out)
 have HBd:=a_ (below_drew1 HB1.out)
 generalize w1.drew=w2 at BKd HBKd HBd hHeld ⊢
 refine one_ (i:=6) (N:=some 10) #[true,true,true,true,true,true,true,false,false,false,false] rfl rfl (by kernel_rfl) (by decide) (fun K hK=>?_)
 refine Kd.R_lit_step (w0:=w) k44 w.heap.size 44 ?hg (N:=10) ?hd (xs:=[e]) (inner:=[.int .i64 e.f0,.int .i64 e.f1,.int .i64 e.f2.f0,.int .i64 e.f2.f1,.int .i64 e.f2.f2,.int .i64 e.f2.f3,.string e.f2.f4]) (ok:=fun k=>k≠g) (okp:=fun k=>k≠g) ?hr ?hp (fun _ hk=>hk) (by have h1:=HGL.out;have h2:=HBd.out.size;omega) HBd.out HBd.out.size (by simp) ?_
 case hd=>rfl
 case hg=>rfl
 case hr=>first|(go_simp;done)|(go_simp;rfl)
 case hp=>exact (Reps.front (show Kd.M k44 _ _ _ e [.int .i64 e.f0,.int .i64 e.f1,.int .i64 e.f2.f0,.int .i64 e.f2.f1,.int .i64 e.f2.f2,.int .i64 e.f2.f3,.string e.f2.f4] from k44_mkM _ _ _ e) rfl (Reps.none _ _) rfl)
 intro v3 w3 ho3 hb3 hg3 hn3
 obtain ⟨A3,c3,rfl⟩:=Kd.R_slice ho3
 have HO3:=a_ ho3
 have HB3:=a_ hb3
 have BK3:=a_ (blk_grown BKd.out hg3 (by simp))
 have HBK3:=a_ (blk_grown HBKd.out hg3 (by simp))
 clear ho3 hb3 hg3 hn3
 refine hK _ _ ⟨(bC_ HBK3.out 1).trans rfl,(bC_ BK3.out 0).trans rfl,(bC_ BK3.out 1).trans rfl,(bC_ BK3.out 2).trans rfl,(bC_ BK3.out 3).trans rfl,(bC_ BK3.out 4).trans rfl,(bC_ BK3.out 5).trans rfl,(bC_ BK3.out 6).trans rfl⟩ (fun hHeld3=>?_)
 clear hK K hHeld
 refine no_ 10 ?_
 refine one_ (i:=7) (N:=some 11) #[true,true,true,true,true,true,true,true,false,false,false] rfl rfl (by kernel_rfl) (by decide) (fun K hK=>?_)
 refine Kd.R_append_rows_step k44 (w0:=w) w.heap.size ?aW (.tmp 8) (.tmp 10) 23 44 (.agg #[(.int .i64 0),(.int .i64 0),(.int .i64 0),(.int .i64 0),(.int .i64 0),(.int .i64 0),(.string ⟨#[]⟩)]) 64 rfl Tryd.underlying23 info44 rfl (by decide) (by omega) (.slice none 0 0) ([]:List S44) [e] A3 1 c3 (fun k=>k≠g) (fun _=>False) rfl rfl ?aO ?aR (fun _ _ h=>h) (fun _ h=>h.elim) ?aF ?aB ?aS ?aL ?_
 case aW=>rfl
 case aR=>exact (Kd.R_reads' HO3.out).2.2
 case aB=>exact HB3.out
 case aF=>exact (fun k hk=>by have h1:=HGL.out;have h2:=HB3.out.size;omega)
 case aO=>exact Kd.R_nil _ _ _ _ _
 case aS=>exact HB3.out.size
 case aL=>simp
 intro v4 w4 ho4 hb4 hg4 hn4
 obtain ⟨A4,c4,rfl⟩:=Kd.R_slice ho4
 have HO4:=a_ ho4
 have HB4:=a_ hb4
 have BK4:=a_ (blk_grown BK3.out hg4 (by simp [Value.ownBlock]))
 have HBK4:=a_ (blk_grown HBK3.out hg4 (by simp [Value.ownBlock]))
 clear ho4 hb4 hg4 hn4
 refine hK _ _ ⟨(bC_ HBK4.out 1).trans rfl,(bC_ BK4.out 0).trans rfl,(bC_ BK4.out 1).trans rfl,(bC_ BK4.out 2).trans rfl,(bC_ BK4.out 3).trans rfl,(bC_ BK4.out 4).trans rfl,(bC_ BK4.out 5).trans rfl,(bC_ BK4.out 6).trans rfl⟩ (fun hHeld4=>?_)
 clear hK K hHeld3
 refine no_ 11 ?_
 refine pure_ (i:=8) (N:=some 12) (v:=?_) (a':=?_) #[true,true,true,true,true,true,true,true,true,false,false] rfl rfl (by kernel_rfl) (fun _ _ _ h=>h) (Or.inl ⟨by rfl,?_⟩) ?_ ?_
 rotate_left
 ·intro w'
  go_simp
  with_reducible rfl
 rotate_left
 ·simp only [Act.put,List.setIfInBounds_toArray,List.set_cons_zero,List.set_cons_succ,i64_w,i32_w]
  rfl
 refine pure_ (i:=9) (N:=some 13) (v:=?_) (a':=?_) #[true,true,true,true,true,true,true,true,true,true,false] rfl rfl (by kernel_rfl) (fun _ _ _ h=>h) (Or.inl ⟨by rfl,?_⟩) ?_ ?_
 rotate_left
 ·intro w'
  go_simp
  with_reducible rfl
 rotate_left
 ·simp only [Act.put,List.setIfInBounds_toArray,List.set_cons_zero,List.set_cons_succ,i64_w,i32_w]
  rfl
 refine last_ (i:=10) (N:=none) #[true,true,true,true,true,true,true,true,true,true,true] rfl rfl (by kernel_rfl) (by decide) (fun K hK=>?_)
 have hs5:w4.cell? ⟨g,1,none⟩=some (.slice none 0 0):=(bC_ HBK4.out 1).trans rfl
 have hfs5:=bF_ HBK4.out 1
 refine skip_ (w1:=?_) (by rfl) rfl ?_ ?_
 rotate_left
 ·go_simp
  rfl
 refine hK _ _ ?_
 clear hK K
 refine done_ (by kernel_rfl) ?_
 go_wp2
 go_end0
 refine ⟨⟨_,rfl⟩,A4,c4,(blk_set HBK4.out 1 _).trans rfl,?_,(Keep.of_below HB4.out (Nat.le_of_lt HGL.out)).set 1 _⟩
 exact Kd.R_far HO4.out (p:=⟨g,1,none⟩) (fun _ h=>h) _
theorem pop_none (g:Nat) (SL:Value) (A:Option Addr) (c:Nat) (s:Int) (u:Bool) (w:World) (hb:w.heap[g]?=some (.cells #[SL,.slice A 0 c,.int .i64 s,.bool u] 107 (0,0))) :
  Calls Tryd.prog 118 #[.pointer (some ⟨g,1,none⟩)] w fun x w'=>x=.returned (.tuple #[.agg #[.int .i64 0,.int .i64 0,.int .i64 0,.int .i64 0,.int .i64 0,.int .i64 0,.string ⟨#[]⟩],.bool false])∧Below w.heap.size w w':=by
 have HBK:=a_ hb
 clear hb
 have hu1:=Tryd.underlying105
 have hu2:=Tryd.underlying44
 go_enter Tryd.func118,Tryd.ntmps118
 go_wp2_with (first|((with_reducible refine gD_ (N:=2) rfl ?_);refine bx_ 2 (#[.int .i64 0,.int .i64 0,.int .i64 0,.int .i64 0,.int .i64 0,.int .i64 0,.string ⟨#[]⟩]) 44 ?_;intro g1 hg1 w1 hbox1 hb1;have HB1:=a_ hb1;have BK1:=a_ hbox1;have GE1:=a_ (Nat.le_of_eq hg1.symm);have HBK1:=a_ (blk_below HBK.out hb1);clear hb1 hbox1 hg1;have hs1:w1.cell? ⟨g,1,none⟩=some (.slice A 0 c):=(bC_ HBK1.out 1).trans rfl;have hz0:=(bC_ BK1.out 0).trans rfl;have hz1:=(bC_ BK1.out 1).trans rfl;have hz2:=(bC_ BK1.out 2).trans rfl;have hz3:=(bC_ BK1.out 3).trans rfl;have hz4:=(bC_ BK1.out 4).trans rfl;have hz5:=(bC_ BK1.out 5).trans rfl;have hz6:=(bC_ BK1.out 6).trans rfl;have hf0:=bF_ BK1.out 0;have hf1:=bF_ BK1.out 1;have hf2:=bF_ BK1.out 2;have hf3:=bF_ BK1.out 3;have hf4:=bF_ BK1.out 4;have hf5:=bF_ BK1.out 5;have hf6:=bF_ BK1.out 6))
 (try simp only [Exit.inBlock,Exit.then])
 refine bodyPost_ret (results_ct rfl _ _ g1 44 #[.int .i64 0,.int .i64 0,.int .i64 0,.int .i64 0,.int .i64 0,.int .i64 0,.string ⟨#[]⟩] (0,0) _ rfl ((blk_set (blk_set (blk_set (blk_set (blk_set (blk_set (blk_set BK1.out 0 _) 1 _) 2 _) 3 _) 4 _) 5 _) 6 _).trans rfl) Tryd.underlying44 rfl (by kernel_rfl)) rfl ?_
 exact ⟨rfl,wS_ (wS_ (wS_ (wS_ (wS_ (wS_ (wS_ HB1.out GE1.out) GE1.out) GE1.out) GE1.out) GE1.out) GE1.out) GE1.out⟩
theorem pop_one (g:Nat) (SL:Value) (A:Option Addr) (c:Nat) (s:Int) (u:Bool) (e:S44) (w:World) (hb:w.heap[g]?=some (.cells #[SL,.slice A 1 c,.int .i64 s,.bool u] 107 (0,0))) (base:Nat) (hr:Kd.R k44 44 w base (fun k=>k≠g) (.slice A 1 c) [e]) :
  Calls Tryd.prog 118 #[.pointer (some ⟨g,1,none⟩)] w fun x w'=>x=.returned (.tuple #[.agg #[.int .i64 e.f0,.int .i64 e.f1,.int .i64 e.f2.f0,.int .i64 e.f2.f1,.int .i64 e.f2.f2,.int .i64 e.f2.f3,.string e.f2.f4],.bool true])∧(∃ (A':Option Addr) (c':Nat),w'.heap[g]?=some (.cells #[SL,.slice A' 0 c',.int .i64 s,.bool u] 107 (0,0)))∧Keep g w w':=by
 have HBK:=a_ hb
 have HGL:=a_ (blk_lt hb)
 have HR:=a_ hr
 clear hb
 have hu1:=Tryd.underlying105
 have hu2:=Tryd.underlying44
 have h1c:1≤c:=(Kd.R_reads' hr).2.1
 obtain ⟨ad,e0,hx0,hx1,hx2,hx3,hx4,hx5,hx6⟩:=at_T44 (Kd.R_reads' hr).2.2 0 (by decide) (by simp)
 clear hr
 have hrd:rd_T44 [e] 0=e:=rfl
 rw [hrd] at hx0 hx1 hx2 hx3 hx4 hx5 hx6
 have hadd:ad.add ((0:Int).toNat * 7)=ad:=rfl
 rw [hadd] at hx0 hx1 hx2 hx3 hx4 hx5 hx6
 subst e0
 have HX:=a_ (And.intro hx0 (And.intro hx1 (And.intro hx2 (And.intro hx3 (And.intro hx4 (And.intro hx5 hx6))))))
 clear hx0 hx1 hx2 hx3 hx4 hx5 hx6 hadd hrd
 go_enter Tryd.func118,Tryd.ntmps118
 go_wp2_with (first|((with_reducible refine gD_ (N:=2) rfl ?_);refine bx_ 2 (#[.int .i64 0,.int .i64 0,.int .i64 0,.int .i64 0,.int .i64 0,.int .i64 0,.string ⟨#[]⟩]) 44 ?_;intro g1 hg1 w1 hbox1 hb1;have HB1:=a_ hb1;have BK1:=a_ hbox1;have GE1:=a_ (Nat.le_of_eq hg1.symm);have HBK1:=a_ (blk_below HBK.out hb1);clear hb1 hbox1 hg1;have hs1:w1.cell? ⟨g,1,none⟩=some (.slice (some ad) 1 c):=(bC_ HBK1.out 1).trans rfl;have hx0:=(HB1.out.cell (bl_ w _ HX.out.1)).trans HX.out.1;have hx1:=(HB1.out.cell (bl_ w _ HX.out.2.1)).trans HX.out.2.1;have hx2:=(HB1.out.cell (bl_ w _ HX.out.2.2.1)).trans HX.out.2.2.1;have hx3:=(HB1.out.cell (bl_ w _ HX.out.2.2.2.1)).trans HX.out.2.2.2.1;have hx4:=(HB1.out.cell (bl_ w _ HX.out.2.2.2.2.1)).trans HX.out.2.2.2.2.1;have hx5:=(HB1.out.cell (bl_ w _ HX.out.2.2.2.2.2.1)).trans HX.out.2.2.2.2.2.1;have hx6:=(HB1.out.cell (bl_ w _ HX.out.2.2.2.2.2.2)).trans HX.out.2.2.2.2.2.2)|((with_reducible refine gD_ (N:=4) rfl ?_);refine bx_ 4 (#[.int .i64 0,.int .i64 0,.int .i64 0,.int .i64 0,.int .i64 0,.int .i64 0,.string ⟨#[]⟩]) 44 ?_;intro g2 hg2 w2 hbox2 hb2;have HB2:=a_ (bS_ HB1.out hb2);have BK2:=a_ hbox2;have BK12:=a_ (blk_below BK1.out hb2);have GE2:=a_ (show w.heap.size≤g2 by rw [hg2];exact HB1.out.size);have HBK2:=a_ (blk_below HBK1.out hb2);have NE:=a_ (show g1≠g2 by have:=blk_lt BK1.out;omega);have hn1:=NE.out;have hn2:=hn1.symm;have hn3:g≠g2:=(by have:=blk_lt HBK.out;have:=GE2.out;omega);have hn4:=hn3.symm;have hn5:g≠g1:=(by have:=blk_lt HBK.out;have:=GE1.out;omega);have hn6:=hn5.symm;have hs2:w2.cell? ⟨g,1,none⟩=some (.slice (some ad) 1 c):=(bC_ HBK2.out 1).trans rfl;have hfs2:=bF_ HBK2.out 1;clear hb2 hbox2 hg2;have hz0:=(bC_ BK2.out 0).trans rfl;have hz1:=(bC_ BK2.out 1).trans rfl;have hz2:=(bC_ BK2.out 2).trans rfl;have hz3:=(bC_ BK2.out 3).trans rfl;have hz4:=(bC_ BK2.out 4).trans rfl;have hz5:=(bC_ BK2.out 5).trans rfl;have hz6:=(bC_ BK2.out 6).trans rfl;have hf0:=bF_ BK2.out 0;have hf1:=bF_ BK2.out 1;have hf2:=bF_ BK2.out 2;have hf3:=bF_ BK2.out 3;have hf4:=bF_ BK2.out 4;have hf5:=bF_ BK2.out 5;have hf6:=bF_ BK2.out 6;have hy0:=(bC_ BK12.out 0).trans rfl;have hy1:=(bC_ BK12.out 1).trans rfl;have hy2:=(bC_ BK12.out 2).trans rfl;have hy3:=(bC_ BK12.out 3).trans rfl;have hy4:=(bC_ BK12.out 4).trans rfl;have hy5:=(bC_ BK12.out 5).trans rfl;have hy6:=(bC_ BK12.out 6).trans rfl;have hyf0:=bF_ BK12.out 0;have hyf1:=bF_ BK12.out 1;have hyf2:=bF_ BK12.out 2;have hyf3:=bF_ BK12.out 3;have hyf4:=bF_ BK12.out 4;have hyf5:=bF_ BK12.out 5;have hyf6:=bF_ BK12.out 6))
 all_goals (try simp only [Exit.inBlock,Exit.then])
 all_goals refine bodyPost_ret (results_ct rfl _ _ g1 44 #[.int .i64 e.f0,.int .i64 e.f1,.int .i64 e.f2.f0,.int .i64 e.f2.f1,.int .i64 e.f2.f2,.int .i64 e.f2.f3,.string e.f2.f4] (0,0) _ rfl ((blk_set (blk_set (blk_set (blk_set (blk_set (blk_set (blk_set (blk_far (blk_far (blk_far (blk_far (blk_far (blk_far (blk_far (blk_far (BK12.out) NE.out _) NE.out _) NE.out _) NE.out _) NE.out _) NE.out _) NE.out _) hn6 _) 0 _) 1 _) 2 _) 3 _) 4 _) 5 _) 6 _).trans rfl) Tryd.underlying44 rfl (by kernel_rfl)) rfl ?_
 all_goals exact ⟨rfl,⟨_,_,(blk_far (blk_far (blk_far (blk_far (blk_far (blk_far (blk_far (blk_set (blk_far (blk_far (blk_far (blk_far (blk_far (blk_far (blk_far (HBK2.out) hn3 _) hn3 _) hn3 _) hn3 _) hn3 _) hn3 _) hn3 _) 1 _) hn5 _) hn5 _) hn5 _) hn5 _) hn5 _) hn5 _) hn5 _).trans rfl⟩,Keep.far (Keep.far (Keep.far (Keep.far (Keep.far (Keep.far (Keep.far (Keep.set (Keep.far (Keep.far (Keep.far (Keep.far (Keep.far (Keep.far (Keep.far (Keep.of_below HB2.out (Nat.le_of_lt HGL.out)) (p:=⟨g2,0,none⟩) (Nat.le_of_lt HGL.out) GE2.out _) (p:=⟨g2,1,none⟩) (Nat.le_of_lt HGL.out) GE2.out _) (p:=⟨g2,2,none⟩) (Nat.le_of_lt HGL.out) GE2.out _) (p:=⟨g2,3,none⟩) (Nat.le_of_lt HGL.out) GE2.out _) (p:=⟨g2,4,none⟩) (Nat.le_of_lt HGL.out) GE2.out _) (p:=⟨g2,5,none⟩) (Nat.le_of_lt HGL.out) GE2.out _) (p:=⟨g2,6,none⟩) (Nat.le_of_lt HGL.out) GE2.out _) 1 _) (p:=⟨g1,0,none⟩) (Nat.le_of_lt HGL.out) GE1.out _) (p:=⟨g1,1,none⟩) (Nat.le_of_lt HGL.out) GE1.out _) (p:=⟨g1,2,none⟩) (Nat.le_of_lt HGL.out) GE1.out _) (p:=⟨g1,3,none⟩) (Nat.le_of_lt HGL.out) GE1.out _) (p:=⟨g1,4,none⟩) (Nat.le_of_lt HGL.out) GE1.out _) (p:=⟨g1,5,none⟩) (Nat.le_of_lt HGL.out) GE1.out _) (p:=⟨g1,6,none⟩) (Nat.le_of_lt HGL.out) GE1.out _⟩
end Go.Proofs.YtdpklbomhdpimaaDoor.P
namespace Go.Proofs.YtdpklbomhdpimaaDoor.P
open Go.RowKit Go.Proofs.YtdpklbomhdpimaaDoorW.PrintWords Go.Proofs.YtdpklbomhdpimaaDoorW.PrintLast
theorem eqA42 (d:Nat) (w:World) (x0 y0:Int) (x1 y1:Int) (x2 y2:Int) (x3 y3:Int) (x4 y4:ByteArray) :
  (Op.equalIn (d+2) 42 (.agg #[.int .i64 x0,.int .i64 x1,.int .i64 x2,.int .i64 x3,.string x4]) (.agg #[.int .i64 y0,.int .i64 y1,.int .i64 y2,.int .i64 y3,.string y4])).run Tryd.prog w=.ok (x0==y0&&(x1==y1&&(x2==y2&&(x3==y3&&(x4.toList==y4.toList))))) w:=by
 refine eqA_of Tryd.underlying42 (by kernel_rfl) ?_
 refine eqf_cons (by rfl) (by go_simp;rfl) (by go_simp;rfl) (by go_simp) ?_
 refine eqf_cons (by rfl) (by go_simp;rfl) (by go_simp;rfl) (by go_simp) ?_
 refine eqf_cons (by rfl) (by go_simp;rfl) (by go_simp;rfl) (by go_simp) ?_
 refine eqf_cons (by rfl) (by go_simp;rfl) (by go_simp;rfl) (by go_simp) ?_
 exact eqf_last (by rfl) (by go_simp;rfl) (by go_simp;rfl) (by go_simp)
theorem eqA44 (d:Nat) (w:World) (x0 y0:Int) (x1 y1:Int) (x2 y2:Int) (x3 y3:Int) (x4 y4:Int) (x5 y5:Int) (x6 y6:ByteArray) :
  (Op.equalIn (d+3) 44 (.agg #[.int .i64 x0,.int .i64 x1,.int .i64 x2,.int .i64 x3,.int .i64 x4,.int .i64 x5,.string x6]) (.agg #[.int .i64 y0,.int .i64 y1,.int .i64 y2,.int .i64 y3,.int .i64 y4,.int .i64 y5,.string y6])).run Tryd.prog w=.ok (x0==y0&&(x1==y1&&((x2==y2&&(x3==y3&&(x4==y4&&(x5==y5&&(x6.toList==y6.toList)))))))) w:=by
 refine eqA_of Tryd.underlying44 (by kernel_rfl) ?_
 refine eqf_cons (by rfl) (by go_simp;rfl) (by go_simp;rfl) (by go_simp) ?_
 refine eqf_cons (by rfl) (by go_simp;rfl) (by go_simp;rfl) (by go_simp) ?_
 exact eqf_last (by rfl) (by go_simp) (by go_simp) (eqA42 (d+0) w _ _ _ _ _ _ _ _ _ _)
end Go.Proofs.YtdpklbomhdpimaaDoor.P
namespace Go.Proofs.YtdpklbomhdpimaaDoor.P
open Go.RowKit Go.Maps Go.Proofs.YtdpklbomhdpimaaDoorW.PrintWords Go.Proofs.YtdpklbomhdpimaaDoorW.PrintLast Go.Proofs.YtdpklbomhdpimaaDoorW.PrintMore
theorem logOk_who {k:Nat}:∀ (rest pre:List S44),impl_LogOk.go k pre rest=some true→∀ e∈rest,1≤e.f0∧e.f0≤3
 | [],_,_,e,he=>by cases he
 | x::rest,pre,h,e,he=>by
  unfold impl_LogOk.go at h
  obtain ⟨t,ht,h⟩:=Option.bind_eq_some_iff.1 h
  cases t with
  | false=>simp at h
  | true =>
   rw [if_pos rfl] at h
   by_cases hq:cntE pre x.f0+1=x.f1
   ·rw [if_pos hq] at h
    rcases List.mem_cons.1 he with rfl|he
    ·exact entry_who ht
    ·exact logOk_who rest _ h e he
   ·rw [if_neg hq] at h
    cases h
theorem logOk_true {k:Nat} {l:List S44} (h:impl_LogOk.f k l=some true):l.length≤40∧∀ e∈l,1≤e.f0∧e.f0≤3:=by
 unfold impl_LogOk.f at h
 by_cases h40:(l.length:Int) > 40
 ·rw [if_pos h40] at h
  cases h
 ·rw [if_neg h40] at h
  exact ⟨by omega,logOk_who l [] h⟩
def impl_LogSeq.f (k:Nat) (l0:List S44) (a1:Int):Option Int :=
 (impl_LogOk.f k l0).bind fun t=>if t=true then (if 0≤a1∧a1≤4 then some (cntE l0 a1) else none) else some (-1)
theorem impl_LogSeq.mono (l0:List S44) (a1:Int) (k:Nat):LeO (impl_LogSeq.f k l0 a1) (impl_LogSeq.f (k+1) l0 a1):=by
 unfold impl_LogSeq.f
 exact LeO.bind (impl_LogOk.mono _ _) (fun _=>LeO.refl _)
def SeqRel (l0:List S44) (b:Nat) (w:World) (i:Value) (wr:World):Prop :=
 ∃ j:Int,0≤j∧j≤l0.length∧i=.int .i64 j∧CntMap wr b (cntE (l0.take j.toNat)) j.toNat∧Below w.heap.size w wr∧w.heap.size≤b
theorem impl_LogSeq.calls (k:Nat) (A0:Option Addr) (c0:Nat) (l0:List S44) (a1:Int) (r:Int) (w:World) (hr0:Kd.C k44 w A0 l0.length l0) (hc0:l0.length≤c0) (h:impl_LogSeq.f k l0 a1=some r) (hG:Glob w) :
  Calls Tryd.prog 33 #[.slice A0 l0.length c0,.int .i64 a1] w fun e w'=>e=.returned (.int .i64 r)∧Below w.heap.size w w':=by
 have HR0:=a_ hr0
 have HG:=a_ hG
 have HC0:=a_ hc0
 clear hr0 hG hc0
 unfold impl_LogSeq.f at h
 obtain ⟨t,ht,h⟩:=Option.bind_eq_some_iff.1 h
 have HT:=a_ ht
 clear ht
 have hmm:=@run_makeMap Tryd.prog
 cases t with
 | false =>
  simp only [Bool.false_eq_true,if_false,Option.some.injEq] at h
  subst h
  clear hmm
  go_enter Tryd.func33,Tryd.ntmps33
  go_wp2_with (go_at_call 42;refine (impl_LogOk.calls k _ _ _ false _ HR0.out HC0.out HT.out HG.out).mono ?_;rintro e w2 ⟨rfl,hb⟩;have HB2:=a_ hb;clear hb)
  go_ret
  exact ⟨rfl,HB2.out⟩
 | true =>
  rw [if_pos rfl] at h
  obtain ⟨h40,hwho⟩:=logOk_true HT.out
  have HWHO:=a_ hwho
  have H40:=a_ h40
  clear hwho h40
  by_cases ha:0≤a1∧a1≤4
  ·rw [if_pos ha] at h
   obtain rfl:=sj_ h
   clear h
   have HA:=a_ ha
   clear ha
   go_enter Tryd.func33,Tryd.ntmps33
   go_wp2_with (go_at_call 42;refine (impl_LogOk.calls k _ _ _ true _ HR0.out HC0.out HT.out HG.out).mono ?_;rintro e w2 ⟨rfl,hb⟩;have HB2:=a_ hb;clear hb)
   have hM0:CntMap (w2.alloc (.map #[] 0)) w2.heap.size (cntE []) 0:=⟨.map [],World.ownsMap_made _ _ _ _,fun x=>rfl⟩
   have HM0:=a_ hM0
   clear hM0
   have HBB:=a_ (show Below w.heap.size w (w2.alloc (.map #[] 0)) from wA_ HB2.out _)
   have HSZ:=a_ HB2.out.size
   generalize w2.heap.size=b at HM0 HSZ ⊢
   go_loopw [14] (fun i wr=>SeqRel l0 b w i wr) (fun i _=>l0.length - (intOf i).toNat)
   case atStart=>exact ⟨0,Int.le_refl _,by omega,rfl,HM0.out,HBB.out,HSZ.out⟩
   case round =>
    obtain ⟨j,hj0,hj,rfl,hM,hB,_⟩:=hrel
    have HM:=a_ hM
    have HB:=a_ hB
    clear hM hB HM0 HBB
    by_cases hlt:j < l0.length
    ·have hd1:decide (j < (l0.length:Int))=true:=dt_ hlt
     obtain ⟨ad,e,hx0,hx1,hx2,hx3,hx4,hx5,hx6⟩:=at_T44 HR0.out j hj0 hlt
     cases e
     replace hx0:=(cb_ HB.out hx0 :)
     replace hx1:=(cb_ HB.out hx1 :)
     replace hx2:=(cb_ HB.out hx2 :)
     replace hx3:=(cb_ HB.out hx3 :)
     replace hx4:=(cb_ HB.out hx4 :)
     replace hx5:=(cb_ HB.out hx5 :)
     replace hx6:=(cb_ HB.out hx6 :)
     have hu:=Tryd.underlying44
     have hxe:rd_T44 l0 j=l0[j.toNat]'(by omega):=by
      unfold rd_T44
      rw [List.getD_eq_getElem?_getD,List.getElem?_eq_getElem (by omega)]
      rfl
     have htk:=List.take_succ_eq_append_getElem (l:=l0) (i:=j.toNat) (by omega)
     have hmem:=HWHO.out _ (List.getElem_mem (l:=l0) (n:=j.toNat) (by omega))
     rw [←hxe] at htk hmem
     clear hxe
     generalize rd_T44 l0 j=x at hx0 hx1 hx2 hx3 hx4 hx5 hx6 htk hmem
     rw [show j.toNat+1=(j+1).toNat by omega] at htk
     have hjb:j≤40:=by have:=H40.out;omega
     have p1:=eq_true hj0
     have q1:=eq_true hlt
     have hcn:=cntE_le (l0.take j.toNat) x.f0
     have hcl:(l0.take j.toNat).length≤40:=by rw [List.length_take];omega
     have hsn:=cntE_snoc (l0.take j.toNat) x
     rw [←htk] at hsn
     have HSN:=a_ hsn
     have HJN:=a_ (show j.toNat≤1000∧0≤j∧j < l0.length from ⟨by omega,hj0,hlt⟩)
     have HM1:=a_ (HM.out.alloc (.cells #[.int .i64 x.f0,.int .i64 x.f1,.int .i64 x.f2.f0,.int .i64 x.f2.f1,.int .i64 x.f2.f2,.int .i64 x.f2.f3,.string x.f2.f4] 44))
     have HB1:=a_ (wA_ HB.out (.cells #[.int .i64 x.f0,.int .i64 x.f1,.int .i64 x.f2.f0,.int .i64 x.f2.f1,.int .i64 x.f2.f2,.int .i64 x.f2.f3,.string x.f2.f4] 44))
     have HX:=a_ (show 0≤x.f0∧x.f0≤4 from ⟨by omega,by omega⟩)
     have HC:=a_ (show 0≤cntE (l0.take j.toNat) x.f0∧cntE (l0.take j.toNat) x.f0≤1000 from ⟨hcn.1,by have:=hcn.2;omega⟩)
     clear hj0 hlt hcn hcl htk hsn HM HB hmem
     go_wp2_with (go_at_call 87;refine (add_any _ _ _ _ _ HX.out HC.out HJN.out.1 HM1.out).mono ?_;rintro e w3 ⟨rfl,hM3,hg3⟩;have HM3:=a_ hM3;have HB3:=a_ (HB1.out.grown hg3 HB1.out.size (fun j hj=>by cases hj;exact HSZ.out));clear hM3 hg3)
     all_goals have hjj:=HJN.out
     all_goals have hww:wrap64 (j+1)=j+1:=by unfold wrap64;omega
     all_goals refine ⟨⟨j+1,by omega,by omega,by rw [hww],?_,HB3.out,HSZ.out⟩,?_⟩
     all_goals first
      | (rw [hww];show l0.length - (j+1).toNat < l0.length - j.toNat;omega)
      | (rw [HSN.out,show (j+1).toNat=j.toNat+1 by omega];exact HM3.out)
    ·have hd1:decide (j < (l0.length:Int))=false:=df_ hlt
     have hM:=HM.out
     rw [List.take_of_length_le (by omega)] at hM
     clear HM hlt
     obtain ⟨D,hown,hat⟩:=hM
     have hkey:keyOf Tryd.prog 3 (.int .i64 a1)=some (.int .i64 a1):=keyOf_int_mk Tryd.underlying3 (wf_small a1 (by have:=HA.out;omega))
     have HAT:=a_ (hat a1)
     clear hat
     go_wp2_with (at_lookup;refine wpList_lookup_own_int _ rfl (.tmp 23) (.tmp 24) 114 rfl 3 3 .i64 keyI Tryd.underlying114 Tryd.underlying3 (zeroI _) b j.toNat D rfl hown _ _ rfl hkey ?_;intro z hz hwz;have ez:z=cntE l0 a1:=(by have:=HAT.out.symm.trans hz;injection this with this;injection this with _ this;exact this.symm);subst ez;clear hz hwz)
     go_ret
     exact ⟨rfl,HB.out⟩
  ·rw [if_neg ha] at h
   cases h
end Go.Proofs.YtdpklbomhdpimaaDoor.P
namespace Go.Proofs.YtdpklbomhdpimaaDoor.P
open Go.RowKit Go.Proofs.YtdpklbomhdpimaaDoorW.PrintWords Go.Proofs.YtdpklbomhdpimaaDoorW.PrintLast
attribute [local go_sem high] eqA44
def impl_Entry_123.l0:Nat→List (S44)→Int→Int→Int→Int→Int→Int→Int→Int→ByteArray→Option (Int)
 | 0,_,_,_,_,_,_,_,_,_,_=>none
 | k+1,x0,x7,x8,x748000,x748001,x748002,x748003,x748004,x748005,x748006=>if x8 < x7 then (if 0≤x8 then (if x8 < (x0.length:Int) then (if (x748000==((rd_T44 x0 x8).f0)&&(x748001==((rd_T44 x0 x8).f1)&&((x748002==((rd_T44 x0 x8).f2.f0)&&(x748003==((rd_T44 x0 x8).f2.f1)&&(x748004==((rd_T44 x0 x8).f2.f2)&&(x748005==((rd_T44 x0 x8).f2.f3)&&(x748006.toList==(((rd_T44 x0 x8).f2.f4).toList)))))))))=true then (some x8) else (impl_Entry_123.l0 k x0 x7 (wrap64 (x8+1)) x748000 x748001 x748002 x748003 x748004 x748005 x748006)) else (none)) else (none)) else (some (-1))
def impl_Entry_123.f (k:Nat) (l0:List (S44)) (a1_0:Int) (a1_1:Int) (a1_2:Int) (a1_3:Int) (a1_4:Int) (a1_5:Int) (a1_6:ByteArray):Option (Int):=impl_Entry_123.l0 k l0 (l0.length:Int) 0 a1_0 a1_1 a1_2 a1_3 a1_4 a1_5 a1_6
theorem impl_Entry_123.mono_l:∀ k,(∀ y0 y1 y2 y3 y4 y5 y6 y7 y8 y9,LeO (impl_Entry_123.l0 k y0 y1 y2 y3 y4 y5 y6 y7 y8 y9) (impl_Entry_123.l0 (k+1) y0 y1 y2 y3 y4 y5 y6 y7 y8 y9))
 | 0=>fun _ _ _ _ _ _ _ _ _ _ r h=>by simp [impl_Entry_123.l0] at h
 | k+1=>by
  have ih0:=impl_Entry_123.mono_l k
  ·intro y0 y1 y2 y3 y4 y5 y6 y7 y8 y9
   unfold impl_Entry_123.l0
   repeat' first
   | (with_reducible exact ih0 _ _ _ _ _ _ _ _ _ _)
   | (with_reducible exact LeO.refl _)
   | (with_reducible exact LeO.none _)
   | (with_reducible refine LeO.ite ?_ ?_)
   | (with_reducible refine LeO.bind ?_ (fun _=>?_))
theorem impl_Entry_123.mono:∀ a0 a1 a2 a3 a4 a5 a6 a7 k,LeO (impl_Entry_123.f k a0 a1 a2 a3 a4 a5 a6 a7) (impl_Entry_123.f (k+1) a0 a1 a2 a3 a4 a5 a6 a7):=by
 intro a0 a1 a2 a3 a4 a5 a6 a7 k
 have ih0:=impl_Entry_123.mono_l k
 unfold impl_Entry_123.f
 repeat' first
   | (with_reducible exact ih0 _ _ _ _ _ _ _ _ _ _)
   | (with_reducible exact LeO.refl _)
   | (with_reducible exact LeO.none _)
   | (with_reducible refine LeO.ite ?_ ?_)
   | (with_reducible refine LeO.bind ?_ (fun _=>?_))
theorem impl_Entry_123.calls (k:Nat) (A0:Option Addr) (c0:Nat) (l0:List (S44)) (a1_0:Int) (a1_1:Int) (a1_2:Int) (a1_3:Int) (a1_4:Int) (a1_5:Int) (a1_6:ByteArray) (r:Int) (w:World) (hr0:Kd.C k44 w A0 l0.length l0) (hc0:l0.length≤c0) (h:impl_Entry_123.f k l0 a1_0 a1_1 a1_2 a1_3 a1_4 a1_5 a1_6=some r) :
  Calls Tryd.prog 123 #[.slice A0 l0.length c0,.agg #[.int .i64 a1_0,.int .i64 a1_1,.int .i64 a1_2,.int .i64 a1_3,.int .i64 a1_4,.int .i64 a1_5,.string a1_6]] w fun e w'=>e=.returned (.int .i64 r)∧Below w.heap.size w w':=by
 have hu44:=Tryd.underlying44
 have HR0:=a_ hr0
 have HC0:=a_ hc0
 clear hr0 hc0
 have HB:=a_ (Below.refl w.heap.size w)
 unfold impl_Entry_123.f at h
 have H:=h
 clear h
 have H':=a_ H
 clear H
 go_enter Tryd.func123,Tryd.ntmps123
 go_wp2_with (first|((with_reducible refine gD_ (N:=3) rfl ?_);refine bx_ 3 (#[.int .i64 a1_0,.int .i64 a1_1,.int .i64 a1_2,.int .i64 a1_3,.int .i64 a1_4,.int .i64 a1_5,.string a1_6]) 44 ?_;intro gb747 hg w3 hbox hb;have n0_:=a_ (bS_ (bel_) hb);have n1_:=a_ (hbox);have n2_:=a_ ((by rw [hg];exact (below_size (bel_)):w.heap.size≤gb747));have n3_:=a_ ((by rw [hg];exact (below_size (bel_)):w.heap.size≤gb747));clear HB;have HB:=n0_;have BK747:=n1_;have GW747:=n2_;have GE747:=n3_;clear n0_ n1_ n2_ n3_;clear hb hbox hg))
 repeat (go_quiet (first|((with_reducible refine gD_ (N:=3) rfl ?_);refine bx_ 3 (#[.int .i64 a1_0,.int .i64 a1_1,.int .i64 a1_2,.int .i64 a1_3,.int .i64 a1_4,.int .i64 a1_5,.string a1_6]) 44 ?_;intro gb747 hg w3 hbox hb;have n0_:=a_ (bS_ (bel_) hb);have n1_:=a_ (hbox);have n2_:=a_ ((by rw [hg];exact (below_size (bel_)):w.heap.size≤gb747));have n3_:=a_ ((by rw [hg];exact (below_size (bel_)):w.heap.size≤gb747));clear HB;have HB:=n0_;have BK747:=n1_;have GW747:=n2_;have GE747:=n3_;clear n0_ n1_ n2_ n3_;clear hb hbox hg));try go_wp2_with (first|((with_reducible refine gD_ (N:=3) rfl ?_);refine bx_ 3 (#[.int .i64 a1_0,.int .i64 a1_1,.int .i64 a1_2,.int .i64 a1_3,.int .i64 a1_4,.int .i64 a1_5,.string a1_6]) 44 ?_;intro gb747 hg w3 hbox hb;have n0_:=a_ (bS_ (bel_) hb);have n1_:=a_ (hbox);have n2_:=a_ ((by rw [hg];exact (below_size (bel_)):w.heap.size≤gb747));have n3_:=a_ ((by rw [hg];exact (below_size (bel_)):w.heap.size≤gb747));clear HB;have HB:=n0_;have BK747:=n1_;have GW747:=n2_;have GE747:=n3_;clear n0_ n1_ n2_ n3_;clear hb hbox hg)))
 go_loopg [8] k (fun kq v8 w'=>∃ (x8_1:Int),v8=.int .i64 x8_1∧Aside0 (impl_Entry_123.l0 kq l0 (l0.length:Int) x8_1 a1_0 a1_1 a1_2 a1_3 a1_4 a1_5 a1_6=some r)∧Aside0 (kq≤k)∧Aside0 (w'.heap[gb747]?=some (.cells #[.int .i64 a1_0,.int .i64 a1_1,.int .i64 a1_2,.int .i64 a1_3,.int .i64 a1_4,.int .i64 a1_5,.string a1_6] 44 (0,0)))∧Aside0 (Below w.heap.size w w'))
 case atStart=>exact ⟨(0),(si_),H',⟨Nat.le_refl _⟩,⟨bp_ BK747.out⟩,⟨bel_⟩⟩
 case round =>
  clear H'
  try clear c1
  try clear p2
  obtain ⟨x8_1,rfl,HA,HK1,BK747,HB⟩:=hrel
  cases gk with
  | zero=>exact absurd HA.out (by simp [impl_Entry_123.l0])
  | succ k1 =>
   have H:=HA.out
   clear HA
   simp only [impl_Entry_123.l0] at H
   by_cases c4:x8_1 < (l0.length:Int)
   ·rw [if_pos c4] at H
    have c4b0:decide (x8_1 < (l0.length:Int))=true:=dt_ c4
    clear c4
    by_cases c5:0≤x8_1
    ·rw [if_pos c5] at H
     have c5b0:decide (0≤x8_1)=true:=dt_ c5
     clear c5
     by_cases c6:x8_1 < (l0.length:Int)
     ·rw [if_pos c6] at H
      have c6b0:decide (x8_1 < (l0.length:Int))=true:=dt_ c6
      clear c6
      by_cases c7:(a1_0==((rd_T44 l0 x8_1).f0)&&(a1_1==((rd_T44 l0 x8_1).f1)&&((a1_2==((rd_T44 l0 x8_1).f2.f0)&&(a1_3==((rd_T44 l0 x8_1).f2.f1)&&(a1_4==((rd_T44 l0 x8_1).f2.f2)&&(a1_5==((rd_T44 l0 x8_1).f2.f3)&&(a1_6.toList==(((rd_T44 l0 x8_1).f2.f4).toList)))))))))=true
      ·rw [if_pos c7] at H
       have c7b0:(a1_0==((rd_T44 l0 x8_1).f0)&&(a1_1==((rd_T44 l0 x8_1).f1)&&((a1_2==((rd_T44 l0 x8_1).f2.f0)&&(a1_3==((rd_T44 l0 x8_1).f2.f1)&&(a1_4==((rd_T44 l0 x8_1).f2.f2)&&(a1_5==((rd_T44 l0 x8_1).f2.f3)&&(a1_6.toList==(((rd_T44 l0 x8_1).f2.f4).toList)))))))))=true:=c7
       (try (have c7b1:decide (a1_0=((rd_T44 l0 x8_1).f0)&&(a1_1==((rd_T44 l0 x8_1).f1)&&((a1_2==((rd_T44 l0 x8_1).f2.f0)&&(a1_3==((rd_T44 l0 x8_1).f2.f1)&&(a1_4==((rd_T44 l0 x8_1).f2.f2)&&(a1_5==((rd_T44 l0 x8_1).f2.f3)&&(a1_6.toList==(((rd_T44 l0 x8_1).f2.f4).toList)))))))))=true:=by simpa using c7))
       (try (have c7b2:(a1_0==((rd_T44 l0 x8_1).f0)&&(a1_1==((rd_T44 l0 x8_1).f1)&&((a1_2==((rd_T44 l0 x8_1).f2.f0)&&(a1_3==((rd_T44 l0 x8_1).f2.f1)&&(a1_4==((rd_T44 l0 x8_1).f2.f2)&&(a1_5==((rd_T44 l0 x8_1).f2.f3)&&(a1_6.toList==(((rd_T44 l0 x8_1).f2.f4).toList)))))))))=true:=by simpa using c7))
       clear c7
       obtain rfl:=sj_ H
       obtain ⟨Z8_0,Z8_1,Z8_2,Z8_3,Z8_4,Z8_5,Z8_6,Y8_0,Y8_1,Y8_2,Y8_3,Y8_4,Y8_5,Y8_6⟩:=op7_ (W:=wr) BK747.out
       have p748:0≤(x8_1:Int):=od_
       have q748:x8_1 < (l0.length:Int):=od_
       obtain ⟨ad748,e748,hx748_0,hx748_1,hx748_2,hx748_3,hx748_4,hx748_5,hx748_6⟩:=at_T44 HR0.out x8_1 p748 q748
       cases e748
       replace hx748_0:=(cb_ HB.out hx748_0 :)
       replace hx748_1:=(cb_ HB.out hx748_1 :)
       replace hx748_2:=(cb_ HB.out hx748_2 :)
       replace hx748_3:=(cb_ HB.out hx748_3 :)
       replace hx748_4:=(cb_ HB.out hx748_4 :)
       replace hx748_5:=(cb_ HB.out hx748_5 :)
       replace hx748_6:=(cb_ HB.out hx748_6 :)
       replace p748:=eq_true p748
       replace q748:=eq_true q748
       go_wp2
       repeat (go_quiet (fail);try go_wp2)
       go_ret
       exact ⟨fi_,bel_⟩
      ·rw [if_neg c7] at H
       have c7b0:(a1_0==((rd_T44 l0 x8_1).f0)&&(a1_1==((rd_T44 l0 x8_1).f1)&&((a1_2==((rd_T44 l0 x8_1).f2.f0)&&(a1_3==((rd_T44 l0 x8_1).f2.f1)&&(a1_4==((rd_T44 l0 x8_1).f2.f2)&&(a1_5==((rd_T44 l0 x8_1).f2.f3)&&(a1_6.toList==(((rd_T44 l0 x8_1).f2.f4).toList)))))))))=false:=by simpa using c7
       (try (have c7b1:decide (a1_0=((rd_T44 l0 x8_1).f0)&&(a1_1==((rd_T44 l0 x8_1).f1)&&((a1_2==((rd_T44 l0 x8_1).f2.f0)&&(a1_3==((rd_T44 l0 x8_1).f2.f1)&&(a1_4==((rd_T44 l0 x8_1).f2.f2)&&(a1_5==((rd_T44 l0 x8_1).f2.f3)&&(a1_6.toList==(((rd_T44 l0 x8_1).f2.f4).toList)))))))))=false:=by simpa using c7))
       (try (have c7b2:(a1_0==((rd_T44 l0 x8_1).f0)&&(a1_1==((rd_T44 l0 x8_1).f1)&&((a1_2==((rd_T44 l0 x8_1).f2.f0)&&(a1_3==((rd_T44 l0 x8_1).f2.f1)&&(a1_4==((rd_T44 l0 x8_1).f2.f2)&&(a1_5==((rd_T44 l0 x8_1).f2.f3)&&(a1_6.toList==(((rd_T44 l0 x8_1).f2.f4).toList)))))))))=false:=by simpa using c7))
       (try (have c7b3:¬ (a1_0=((rd_T44 l0 x8_1).f0)&&(a1_1==((rd_T44 l0 x8_1).f1)&&((a1_2==((rd_T44 l0 x8_1).f2.f0)&&(a1_3==((rd_T44 l0 x8_1).f2.f1)&&(a1_4==((rd_T44 l0 x8_1).f2.f2)&&(a1_5==((rd_T44 l0 x8_1).f2.f3)&&(a1_6.toList==(((rd_T44 l0 x8_1).f2.f4).toList))))))))):=by simpa using c7))
       clear c7
       have H':=a_ H
       clear H
       obtain ⟨Z9_0,Z9_1,Z9_2,Z9_3,Z9_4,Z9_5,Z9_6,Y9_0,Y9_1,Y9_2,Y9_3,Y9_4,Y9_5,Y9_6⟩:=op7_ (W:=wr) BK747.out
       have p748:0≤(x8_1:Int):=od_
       have q748:x8_1 < (l0.length:Int):=od_
       obtain ⟨ad748,e748,hx748_0,hx748_1,hx748_2,hx748_3,hx748_4,hx748_5,hx748_6⟩:=at_T44 HR0.out x8_1 p748 q748
       cases e748
       replace hx748_0:=(cb_ HB.out hx748_0 :)
       replace hx748_1:=(cb_ HB.out hx748_1 :)
       replace hx748_2:=(cb_ HB.out hx748_2 :)
       replace hx748_3:=(cb_ HB.out hx748_3 :)
       replace hx748_4:=(cb_ HB.out hx748_4 :)
       replace hx748_5:=(cb_ HB.out hx748_5 :)
       replace hx748_6:=(cb_ HB.out hx748_6 :)
       replace p748:=eq_true p748
       replace q748:=eq_true q748
       go_wp2
       repeat (go_quiet (fail);try go_wp2)
       go_roundg k1
       case measure=>have:=HK1.out;omega
       case rel=>exact ⟨(wrap64 (x8_1+1)),(si_),H',⟨by have:=HK1.out;omega⟩,⟨bp_ BK747.out⟩,⟨bel_⟩⟩
     ·rw [if_neg c6] at H
      exact absurd H (by simp)
    ·rw [if_neg c5] at H
     exact absurd H (by simp)
   ·rw [if_neg c4] at H
    have c4b0:decide (x8_1 < (l0.length:Int))=false:=df_ c4
    clear c4
    obtain rfl:=sj_ H
    go_wp2
    repeat (go_quiet (fail);try go_wp2)
    go_ret
    exact ⟨fi_,bel_⟩

def impl_Entry_86.f (k:Nat) (l0:List (S44)) (a1_0:Int) (a1_1:Int) (a1_2:Int) (a1_3:Int) (a1_4:Int) (a1_5:Int) (a1_6:ByteArray):Option (Bool):=(impl_Entry_123.f k l0 a1_0 a1_1 a1_2 a1_3 a1_4 a1_5 a1_6).bind fun t750=>(some (decide (t750≥0)))
theorem impl_Entry_86.mono:∀ a0 a1 a2 a3 a4 a5 a6 a7 k,LeO (impl_Entry_86.f k a0 a1 a2 a3 a4 a5 a6 a7) (impl_Entry_86.f (k+1) a0 a1 a2 a3 a4 a5 a6 a7):=by
 intro a0 a1 a2 a3 a4 a5 a6 a7 k
 unfold impl_Entry_86.f
 repeat' first
   | (with_reducible exact impl_Entry_123.mono _ _ _ _ _ _ _ _ _)
   | (with_reducible exact LeO.refl _)
   | (with_reducible exact LeO.none _)
   | (with_reducible refine LeO.ite ?_ ?_)
   | (with_reducible refine LeO.bind ?_ (fun _=>?_))
theorem impl_Entry_86.calls (k:Nat) (A0:Option Addr) (c0:Nat) (l0:List (S44)) (a1_0:Int) (a1_1:Int) (a1_2:Int) (a1_3:Int) (a1_4:Int) (a1_5:Int) (a1_6:ByteArray) (r:Bool) (w:World) (hr0:Kd.C k44 w A0 l0.length l0) (hc0:l0.length≤c0) (h:impl_Entry_86.f k l0 a1_0 a1_1 a1_2 a1_3 a1_4 a1_5 a1_6=some r) :
  Calls Tryd.prog 86 #[.slice A0 l0.length c0,.agg #[.int .i64 a1_0,.int .i64 a1_1,.int .i64 a1_2,.int .i64 a1_3,.int .i64 a1_4,.int .i64 a1_5,.string a1_6]] w fun e w'=>e=.returned (.bool r)∧Below w.heap.size w w':=by
 have hu44:=Tryd.underlying44
 have HR0:=a_ hr0
 have HC0:=a_ hc0
 clear hr0 hc0
 have HB:=a_ (Below.refl w.heap.size w)
 unfold impl_Entry_86.f at h
 have H:=h
 clear h
 replace H:=bs_ H
 obtain ⟨t750,A30,H⟩:=H
 try dsimp only at H
 have A3:=a_ A30
 clear A30
 obtain rfl:=sj_ H
 go_enter Tryd.func86,Tryd.ntmps86
 go_wp2_with (first|((with_reducible refine gD_ (N:=3) rfl ?_);refine bx_ 3 (#[.int .i64 a1_0,.int .i64 a1_1,.int .i64 a1_2,.int .i64 a1_3,.int .i64 a1_4,.int .i64 a1_5,.string a1_6]) 44 ?_;intro gb749 hg w4 hbox hb;have n0_:=a_ (bS_ (bel_) hb);have n1_:=a_ (hbox);have n2_:=a_ ((by rw [hg];exact (below_size (bel_)):w.heap.size≤gb749));have n3_:=a_ ((by rw [hg];exact (below_size (bel_)):w.heap.size≤gb749));clear HB;have HB:=n0_;have BK749:=n1_;have GW749:=n2_;have GE749:=n3_;clear n0_ n1_ n2_ n3_;clear hb hbox hg;obtain ⟨Z5_0,Z5_1,Z5_2,Z5_3,Z5_4,Z5_5,Z5_6,Y5_0,Y5_1,Y5_2,Y5_3,Y5_4,Y5_5,Y5_6⟩:=op7_ BK749.out)|((with_reducible refine gC_ (f:=123) rfl ?_);refine gl_ 7 Tryd.func123 #[.slice A0 l0.length c0,.agg #[.int .i64 a1_0,.int .i64 a1_1,.int .i64 a1_2,.int .i64 a1_3,.int .i64 a1_4,.int .i64 a1_5,.string a1_6]] ?_;(with_reducible refine (impl_Entry_123.calls k _ _ l0 a1_0 a1_1 a1_2 a1_3 a1_4 a1_5 a1_6 t750 _ ?side1 ?side2 A3.out).mono ?_);(case side1=>exact cp_ HR0.out);(case side2=>exact HC0.out);rintro e w6 ⟨rfl,hb⟩;refine ⟨_,rfl,?_⟩;replace HB:=a_ (bS_ (bel_) hb);replace BK749:=a_ (bb_ BK749.out hb);(try clear hb)))
 go_ret
 exact ⟨fi_,bel_⟩

def impl_LogAdd.j0:Nat→List (S44)→Bool→Int→Int→Int→Int→Int→Int→ByteArray→Option ((List (S44))×Int)
 | 0,_,_,_,_,_,_,_,_,_=>none
 | k+1,x0,x14,x752000,x752001,x752002,x752003,x752004,x752005,x752006=>if x14=true then (some (([]:List (S44)),(-1))) else ((impl_Entry_85.f x0).bind fun t754=>((impl_Entry_86.f k x0 x752000 x752001 x752002 x752003 x752004 x752005 x752006).bind fun t757=>(if t757=true then (some (t754,0)) else ((impl_LogSeq.f k x0 x752000).bind fun t758=>(if x752001=(wrap64 (t758+1)) then (if (x0.length:Int)≥40 then (some (t754,(-1))) else (if t754.length < 2199023255552 then (some ((t754++[(⟨x752000,x752001,(⟨x752002,x752003,x752004,x752005,x752006⟩:S42)⟩:S44)]),1)) else (none))) else (some (t754,(-1))))))))
def impl_LogAdd.f (k:Nat) (l0:List (S44)) (a1_0:Int) (a1_1:Int) (a1_2:Int) (a1_3:Int) (a1_4:Int) (a1_5:Int) (a1_6:ByteArray):Option ((List (S44))×Int):=(impl_LogOk.f k l0).bind fun t752=>(if t752=true then ((impl_EntryOk.f k a1_0 a1_1 a1_2 a1_3 a1_4 a1_5 a1_6).bind fun t753=>(impl_LogAdd.j0 k l0 (!t753) a1_0 a1_1 a1_2 a1_3 a1_4 a1_5 a1_6)) else (impl_LogAdd.j0 k l0 true a1_0 a1_1 a1_2 a1_3 a1_4 a1_5 a1_6))
theorem impl_LogAdd.mono_l:∀ k,(∀ y0 y1 y2 y3 y4 y5 y6 y7 y8,LeO (impl_LogAdd.j0 k y0 y1 y2 y3 y4 y5 y6 y7 y8) (impl_LogAdd.j0 (k+1) y0 y1 y2 y3 y4 y5 y6 y7 y8))
 | 0=>fun _ _ _ _ _ _ _ _ _ r h=>by simp [impl_LogAdd.j0] at h
 | k+1=>by
  have ih0:=impl_LogAdd.mono_l k
  ·intro y0 y1 y2 y3 y4 y5 y6 y7 y8
   unfold impl_LogAdd.j0
   repeat' first
   | (with_reducible exact ih0 _ _ _ _ _ _ _ _ _)
   | (with_reducible exact impl_EntryOk.mono _ _ _ _ _ _ _ _)
   | (with_reducible exact impl_Entry_86.mono _ _ _ _ _ _ _ _ _)
   | (with_reducible exact impl_LogOk.mono _ _)
   | (with_reducible exact impl_LogSeq.mono _ _ _)
   | (with_reducible exact LeO.refl _)
   | (with_reducible exact LeO.none _)
   | (with_reducible refine LeO.ite ?_ ?_)
   | (with_reducible refine LeO.bind ?_ (fun _=>?_))
theorem impl_LogAdd.mono:∀ a0 a1 a2 a3 a4 a5 a6 a7 k,LeO (impl_LogAdd.f k a0 a1 a2 a3 a4 a5 a6 a7) (impl_LogAdd.f (k+1) a0 a1 a2 a3 a4 a5 a6 a7):=by
 intro a0 a1 a2 a3 a4 a5 a6 a7 k
 have ih0:=impl_LogAdd.mono_l k
 unfold impl_LogAdd.f
 repeat' first
   | (with_reducible exact ih0 _ _ _ _ _ _ _ _ _)
   | (with_reducible exact impl_EntryOk.mono _ _ _ _ _ _ _ _)
   | (with_reducible exact impl_Entry_86.mono _ _ _ _ _ _ _ _ _)
   | (with_reducible exact impl_LogOk.mono _ _)
   | (with_reducible exact impl_LogSeq.mono _ _ _)
   | (with_reducible exact LeO.refl _)
   | (with_reducible exact LeO.none _)
   | (with_reducible refine LeO.ite ?_ ?_)
   | (with_reducible refine LeO.bind ?_ (fun _=>?_))
def impl_LogAdd.T6:Bool×List (List Nat×List Nat):=(true,[([],[]),([0],[0]),([],[]),([],[]),([3],[3]),([2,4],[2,4]),([5],[5]),([1,6],[1,6]),([7,5],[7]),([8],[8]),([9,8],[8,9]),([10,8],[8,10]),([8,11],[8,11])])
def impl_LogAdd.B6:List Nat:=[0,1,0,0,8,28,60,127,255,511,1023,2047,4095]
theorem impl_LogAdd.tab6:rtab .any (opsOf Tryd.f31 6)=impl_LogAdd.T6:=by kernel_rfl
theorem impl_LogAdd.bits6:waitsOk impl_LogAdd.T6.2 impl_LogAdd.B6=true:=by kernel_rfl
end Go.Proofs.YtdpklbomhdpimaaDoor.P
