/- Joined by programs (wip/shake.py, wip/mini.py). -/
import Derived.Test.YtlhlpfnljglhoaaDoorZCp6
set_option linter.unusedVariables false
set_option linter.unusedSimpArgs false
set_option linter.unusedSectionVars false
set_option maxHeartbeats 8000000
set_option maxRecDepth 100000
namespace Go.Proofs.YtlhlpfnljglhoaaDoor.P
open Go.RowKit Go.Proofs.YtlhlpfnljglhoaaDoorW.PrintWords Go.Proofs.YtlhlpfnljglhoaaDoorW.Bc Go.Proofs.YtlhlpfnljglhoaaDoorW.C6
theorem Gq{P:Program}{f:FuncId}{args:Array Value}{w:World}{d n:Nat}{v:Value}(h:Calls P f args (w.drewN (d+n)) λe w'=>e=.returned v∧AA (w.drewN (d+n)) w') :
  Calls P f args (w.drewN (d+n)) λe a=>e=.returned v∧∃m,a=w.drewN (d+m) :=
 h.mono λ_ _ ⟨he,⟨m,hm⟩⟩=>⟨he,n+m,by rw[hm,World.drewN_drewN,Nat.add_assoc]⟩
def Ed.f(k:Nat)(a e b c:Int)(d:ByteArray):Option Bool :=
 (AK.f e).bind λm=>if m=true then
  (if a=1 then((Cm.f b c).bind λp=>if p=true then Bn.f k d else some false)
  else if a=2 then(if b=0 then(if c=0 then Bn.f k d else some false)else some false)
  else if a=3 then((Cm.f b c).bind λp=>if p=true then some (d.toList.isEmpty)else some false)
  else some false)else some false
def QJ(b a c d:Int)(e:ByteArray):Value :=
 if b=1 then .iface 102 (.agg #[.int .i64 a,.int .i64 c,.int .i64 d,.string e])
 else if b=2 then .iface 105 (.agg #[.int .i64 a,.string e])
 else .iface 107 (.agg #[.int .i64 a,.int .i64 c,.int .i64 d])
def FE(w:World)(a b c d:Int)(g:ByteArray)(r:Bool)(e:Ending)(w':World):Prop :=
 ∃v:Value,e=.returned (.tuple #[v,.bool r])∧(r=true->v=QJ a b c d g)∧Below w.heap.size w w'
theorem BW(w:World)(o:Obj):Below w.heap.size w (w.alloc o):=(Below.refl _ _).alloc (Nat.le_refl _) _
theorem H_(c a d g:Int)(i:ByteArray)(w:World)(hm:AK.f a=some false)(j:B1 w) :
  Calls Tryd.prog 52 #[.agg #[.int .i64 c,.int .i64 a,.int .i64 d,.int .i64 g,.string i]] w (FE w c a d g i false):=by have b:B1 (w.alloc (.cells #[.int .i64 c,.int .i64 a,.int .i64 d,.int .i64 g,.string i] 30)):=j.below (BW w _);have HG:=a_ b;clear b j;have k:=a_ hm;clear hm;go_enter Tryd.func52,Tryd.ntmps52;go_wp2_with(go_at_call 50;refine(AK.calls a _ _ k.o HG.o).mono ?_;rintro e w' ⟨rfl,⟨nd,rfl⟩⟩);go_ret2;exact⟨_,rfl,(λh=>by cases h),by(with_reducible repeat(first|exact BW w _|apply At))⟩
theorem IH(k:Nat)(i a b c:Int)(d:ByteArray)(r:Bool)(w:World)(hm:AK.f a=some true)(l:Cm.f b c=some true)(m:Bn.f k d=some r)(h0:i=1)(j:B1 w) :
  Calls Tryd.prog 52 #[.agg #[.int .i64 i,.int .i64 a,.int .i64 b,.int .i64 c,.string d]] w (FE w i a b c d r):=by have g:B1 (w.alloc (.cells #[.int .i64 i,.int .i64 a,.int .i64 b,.int .i64 c,.string d] 30)):=j.below (BW w _);have HG:=a_ g;clear g j;subst h0;have n:=a_ hm;have o:=a_ l;have p:=a_ m;clear hm l m;go_enter Tryd.func52,Tryd.ntmps52;go_wp2_with(go_at_call 50;refine(AK.calls a _ _ n.o HG.o).mono ?_;rintro e w' ⟨rfl,⟨nd,rfl⟩⟩);go_quiet((first|(go_at_call 64;refine Gq (Cm.calls b c true _ o.o (by(with_reducible repeat(first|exact HG.o|apply B1.drewN|apply B1.drew)))))|(go_at_call 51;refine Gq (Bn.calls k d r _ p.o))));go_wp2;go_ret2;exact⟨_,rfl,λ_=>rfl,by(with_reducible repeat(first|exact BW w _|apply At))⟩
theorem Hu(g a b c:Int)(i:ByteArray)(w:World)(hm:AK.f a=some true)(k:Cm.f b c=some false)(h0:g=1)(j:B1 w) :
  Calls Tryd.prog 52 #[.agg #[.int .i64 g,.int .i64 a,.int .i64 b,.int .i64 c,.string i]] w (FE w g a b c i false):=by have d:B1 (w.alloc (.cells #[.int .i64 g,.int .i64 a,.int .i64 b,.int .i64 c,.string i] 30)):=j.below (BW w _);have HG:=a_ d;clear d j;subst h0;have l:=a_ hm;have m:=a_ k;clear hm k;go_enter Tryd.func52,Tryd.ntmps52;go_wp2_with(go_at_call 50;refine(AK.calls a _ _ l.o HG.o).mono ?_;rintro e w' ⟨rfl,⟨nd,rfl⟩⟩);go_quiet((go_at_call 64;refine Gq (Cm.calls b c false _ m.o (by(with_reducible repeat(first|exact HG.o|apply B1.drewN|apply B1.drew))))));go_wp2;go_ret2;exact⟨_,rfl,(λh=>by cases h),by(with_reducible repeat(first|exact BW w _|apply At))⟩
theorem IK(k:Nat)(d a g i:Int)(b:ByteArray)(r:Bool)(w:World)(hm:AK.f a=some true)(o:g=0)(h3:i=0)(l:Bn.f k b=some r)(h0:d=2)(j:B1 w) :
  Calls Tryd.prog 52 #[.agg #[.int .i64 d,.int .i64 a,.int .i64 g,.int .i64 i,.string b]] w (FE w d a g i b r):=by have c:B1 (w.alloc (.cells #[.int .i64 d,.int .i64 a,.int .i64 g,.int .i64 i,.string b] 30)):=j.below (BW w _);have HG:=a_ c;clear c j;subst h0 o h3;have m:=a_ hm;have n:=a_ l;clear hm l;go_enter Tryd.func52,Tryd.ntmps52;go_wp2_with(go_at_call 50;refine(AK.calls a _ _ m.o HG.o).mono ?_;rintro e w' ⟨rfl,⟨nd,rfl⟩⟩);go_quiet((go_at_call 51;refine Gq (Bn.calls k b r _ n.o)));go_wp2;go_ret2;exact⟨_,rfl,λ_=>rfl,by(with_reducible repeat(first|exact BW w _|apply At))⟩
theorem G1(d a b g:Int)(i:ByteArray)(w:World)(hm:AK.f a=some true)(j:b≠0)(h0:d=2)(k:B1 w) :
  Calls Tryd.prog 52 #[.agg #[.int .i64 d,.int .i64 a,.int .i64 b,.int .i64 g,.string i]] w (FE w d a b g i false):=by have c:B1 (w.alloc (.cells #[.int .i64 d,.int .i64 a,.int .i64 b,.int .i64 g,.string i] 30)):=k.below (BW w _);have HG:=a_ c;clear c k;subst h0;have m:(b==0)=false:=beq_eq_false_iff_ne.2 j;clear j;have l:=a_ hm;clear hm;go_enter Tryd.func52,Tryd.ntmps52;go_wp2_with(go_at_call 50;refine(AK.calls a _ _ l.o HG.o).mono ?_;rintro e w' ⟨rfl,⟨nd,rfl⟩⟩);go_quiet(fail);go_wp2;go_ret2;exact⟨_,rfl,(λh=>by cases h),by(with_reducible repeat(first|exact BW w _|apply At))⟩
theorem G4(d a g b:Int)(i:ByteArray)(w:World)(hm:AK.f a=some true)(l:g=0)(h3:b≠0)(h0:d=2)(j:B1 w) :
  Calls Tryd.prog 52 #[.agg #[.int .i64 d,.int .i64 a,.int .i64 g,.int .i64 b,.string i]] w (FE w d a g b i false):=by have c:B1 (w.alloc (.cells #[.int .i64 d,.int .i64 a,.int .i64 g,.int .i64 b,.string i] 30)):=j.below (BW w _);have HG:=a_ c;clear c j;subst h0 l;have m:(b==0)=false:=beq_eq_false_iff_ne.2 h3;clear h3;have k:=a_ hm;clear hm;go_enter Tryd.func52,Tryd.ntmps52;go_wp2_with(go_at_call 50;refine(AK.calls a _ _ k.o HG.o).mono ?_;rintro e w' ⟨rfl,⟨nd,rfl⟩⟩);go_quiet(fail);go_wp2;go_ret2;exact⟨_,rfl,(λh=>by cases h),by(with_reducible repeat(first|exact BW w _|apply At))⟩
theorem IJ(g a b c:Int)(i:ByteArray)(w:World)(hm:AK.f a=some true)(k:Cm.f b c=some true)(h0:g=3)(j:B1 w) :
  Calls Tryd.prog 52 #[.agg #[.int .i64 g,.int .i64 a,.int .i64 b,.int .i64 c,.string i]] w (FE w g a b c i i.toList.isEmpty):=by have d:B1 (w.alloc (.cells #[.int .i64 g,.int .i64 a,.int .i64 b,.int .i64 c,.string i] 30)):=j.below (BW w _);have HG:=a_ d;clear d j;subst h0;have l:=a_ hm;have m:=a_ k;clear hm k;go_enter Tryd.func52,Tryd.ntmps52;go_wp2_with(go_at_call 50;refine(AK.calls a _ _ l.o HG.o).mono ?_;rintro e w' ⟨rfl,⟨nd,rfl⟩⟩);go_quiet((go_at_call 64;refine Gq (Cm.calls b c true _ m.o (by(with_reducible repeat(first|exact HG.o|apply B1.drewN|apply B1.drew))))));go_wp2;go_ret2;exact⟨_,rfl,λ_=>rfl,by(with_reducible repeat(first|exact BW w _|apply At))⟩
theorem Hv(g a b c:Int)(i:ByteArray)(w:World)(hm:AK.f a=some true)(k:Cm.f b c=some false)(h0:g=3)(j:B1 w) :
  Calls Tryd.prog 52 #[.agg #[.int .i64 g,.int .i64 a,.int .i64 b,.int .i64 c,.string i]] w (FE w g a b c i false):=by have d:B1 (w.alloc (.cells #[.int .i64 g,.int .i64 a,.int .i64 b,.int .i64 c,.string i] 30)):=j.below (BW w _);have HG:=a_ d;clear d j;subst h0;have l:=a_ hm;have m:=a_ k;clear hm k;go_enter Tryd.func52,Tryd.ntmps52;go_wp2_with(go_at_call 50;refine(AK.calls a _ _ l.o HG.o).mono ?_;rintro e w' ⟨rfl,⟨nd,rfl⟩⟩);go_quiet((go_at_call 64;refine Gq (Cm.calls b c false _ m.o (by(with_reducible repeat(first|exact HG.o|apply B1.drewN|apply B1.drew))))));go_wp2;go_ret2;exact⟨_,rfl,(λh=>by cases h),by(with_reducible repeat(first|exact BW w _|apply At))⟩
theorem IG(a b d g:Int)(i:ByteArray)(w:World)(hm:AK.f b=some true)(h1:a≠1)(j:a≠2)(h3:a≠3)(k:B1 w) :
  Calls Tryd.prog 52 #[.agg #[.int .i64 a,.int .i64 b,.int .i64 d,.int .i64 g,.string i]] w (FE w a b d g i false):=by have c:B1 (w.alloc (.cells #[.int .i64 a,.int .i64 b,.int .i64 d,.int .i64 g,.string i] 30)):=k.below (BW w _);have HG:=a_ c;clear c k;have m:(a==1)=false:=beq_eq_false_iff_ne.2 h1;have n:(a==2)=false:=beq_eq_false_iff_ne.2 j;have o:(a==3)=false:=beq_eq_false_iff_ne.2 h3;clear h1 j h3;have l:=a_ hm;clear hm;go_enter Tryd.func52,Tryd.ntmps52;go_wp2_with(go_at_call 50;refine(AK.calls b _ _ l.o HG.o).mono ?_;rintro e w' ⟨rfl,⟨nd,rfl⟩⟩);go_ret2;exact⟨_,rfl,(λh=>by cases h),by(with_reducible repeat(first|exact BW w _|apply At))⟩
theorem Ed.calls(k:Nat)(a d b c:Int)(e:ByteArray)(r:Bool)(w:World)(h:Ed.f k a d b c e=some r)(g:B1 w) :
  Calls Tryd.prog 52 #[.agg #[.int .i64 a,.int .i64 d,.int .i64 b,.int .i64 c,.string e]] w (FE w a d b c e r):=by
 unfold Ed.f at h;obtain⟨m,hm,h⟩:=Option.bind_eq_some_iff.1 h;cases m with
 | false =>
  simp only[Bool.false_eq_true,if_false,Option.some.injEq]at h
  subst h
  exact H_ a d b c e w hm g
 | true =>
  simp only[if_true]at h
  by_cases h1:a=1
  ·rw[if_pos h1]at h
   obtain⟨p,l,h⟩:=Option.bind_eq_some_iff.1 h
   cases p with
   | false =>
    simp only[Bool.false_eq_true,if_false,Option.some.injEq]at h
    subst h
    exact Hu a d b c e w hm l h1 g
   | true =>
    simp only[if_true]at h
    exact IH k a d b c e r w hm l h h1 g
  ·rw[if_neg h1]at h
   by_cases i:a=2
   ·rw[if_pos i]at h
    by_cases j:b=0
    ·rw[if_pos j]at h
     by_cases n:c=0
     ·rw[if_pos n]at h
      exact IK k a d b c e r w hm j n h i g
     ·rw[if_neg n]at h
      simp only[Option.some.injEq]at h
      subst h
      exact G4 a d b c e w hm j n i g
    ·rw[if_neg j]at h
     simp only[Option.some.injEq]at h
     subst h
     exact G1 a d b c e w hm j i g
   ·rw[if_neg i]at h
    by_cases h3:a=3
    ·rw[if_pos h3]at h
     obtain⟨p,l,h⟩:=Option.bind_eq_some_iff.1 h
     cases p with
     | false =>
      simp only[Bool.false_eq_true,if_false,Option.some.injEq]at h
      subst h
      exact Hv a d b c e w hm l h3 g
     | true =>
      simp only[if_true,Option.some.injEq]at h
      subst h
      exact IJ a d b c e w hm l h3 g
    ·rw[if_neg h3]at h
     simp only[Option.some.injEq]at h
     subst h
     exact IG a d b c e w hm h1 i h3 g
def Ew.f(k:Nat)(a b c d:Int)(e:ByteArray):Option Bool:=Ed.f k a b c d e
theorem Ew.calls(k:Nat)(a b c d:Int)(g:ByteArray)(r:Bool)(w:World)(h:Ew.f k a b c d g=some r)(j:B1 w) :
  Calls Tryd.prog 37 #[.agg #[.int .i64 a,.int .i64 b,.int .i64 c,.int .i64 d,.string g]] w λe w'=>e=.returned (.bool r)∧Below w.heap.size w w':=by have i:B1 (w.alloc (.cells #[.int .i64 a,.int .i64 b,.int .i64 c,.int .i64 d,.string g] 30)):=j.below (BW w _);have HG:=a_ i;have m:=a_ h;clear i j h;have hu:=Tryd.underlying30;go_enter Tryd.func37,Tryd.ntmps37;go_wp2_with(go_at_call 52;refine(Ed.calls k a b c d g r _ m.o HG.o).mono ?_;rintro e w1 ⟨v,rfl,_,l⟩;have HB:=a_ l;clear l);go_ret;exact⟨rfl,(BW w _).trans (HB.o.mono (by simp))⟩
end Go.Proofs.YtlhlpfnljglhoaaDoor.P
namespace Go.Proofs.YtlhlpfnljglhoaaDoor.P
open Go.RowKit Go.Proofs.YtlhlpfnljglhoaaDoorW.PrintWords Go.Proofs.YtlhlpfnljglhoaaDoorW.Bc
def Da.f(k:Nat)(a:Int)(b:Int)(c:Int)(d:Int)(g:Int)(i:Int)(j:ByteArray):Option (Bool):=(Cw.f a).bind λl=>(if l=true then(if b<1 then(some false)else(if b>40 then(some false)else((Ew.f k c d g i j).bind λm=>(if m=true then((Cj.f d).bind λe=>(if c=1 then(some (e.1==a))else(some true)))else(some false)))))else(some false))
theorem Da.calls(k:Nat)(c:Int)(j:Int)(d:Int)(g:Int)(l:Int)(m:Int)(n:ByteArray)(r:Bool)(w:World)(h:Da.f k c j d g l m n=some r)(hG:B1 w) :
  Calls Tryd.prog 19 #[.agg #[.int .i64 c,.int .i64 j,.int .i64 d,.int .i64 g,.int .i64 l,.int .i64 m,.string n]] w λe w'=>e=.returned (.bool r)∧Below w.heap.size w w':=by
 have b9:=Tryd.underlying32;have b8:=Tryd.underlying30;have HB:=a_ (Below.refl w.heap.size w);have HG:=a_ hG;clear hG;unfold Da.f at h;have H:=h;clear h;replace H:=BU H;obtain⟨O,K,H⟩:=H;try dsimp only at H
 have I:=a_ K;clear K;by_cases c3:O=true
 ·subst c3;have H1:(if j<1 then(some false)else(if j>40 then(some false)else((Ew.f k d g l m n).bind λv=>(if v=true then((Cj.f g).bind λt=>(if d=1 then(some (t.1==c))else(some true)))else(some false)))))=some r:=by rw[if_pos rfl]at H;exact H
  clear H;have H:=H1;clear H1;by_cases c4:j<1
  ·rw[if_pos c4]at H;have L:decide (j<1)=true:=BJ c4;clear c4;obtain rfl:=C5 H;go_enter Tryd.func19,Tryd.ntmps19;go_wp2_with(first|((with_reducible refine Cd (N:=1) rfl ?_);refine CE 1 (#[.int .i64 c,.int .i64 j,.int .i64 d,.int .i64 g,.int .i64 l,.int .i64 m,.string n]) 32 ?_;intro b hg w5 i o;have a:=a_ (i);have q:=a_ ((by rw[hg];exact(Ab (Ad)):w.heap.size≤b));have p:=a_ ((by rw[hg];exact(Ab (Ad)):w.heap.size≤b));replace HB:=a_ (BA (Ad) o);clear o i hg;obtain⟨bO,bP,bQ,bR,bS,bT,bU,bA,bB,bC,bD,bE,bF,bG⟩:=Dz a.o)|((with_reducible refine BN (f:=17) rfl ?_);refine BR 7 Tryd.func17 #[.int .i64 c] ?_;(with_reducible refine(Cw.calls c true _ I.o).mono ?_);rintro e w' ⟨rfl,⟨nd,rfl⟩⟩;refine⟨_,rfl,?_⟩));go_ret;exact⟨C_,Ad⟩
  rw[if_neg c4]at H;have L:decide (j<1)=false:=C1 c4;clear c4;by_cases c7:j>40
  ·rw[if_pos c7]at H;have M:decide (40<j)=true:=BJ c7;clear c7;obtain rfl:=C5 H;go_enter Tryd.func19,Tryd.ntmps19;go_wp2_with(first|((with_reducible refine Cd (N:=1) rfl ?_);refine CE 1 (#[.int .i64 c,.int .i64 j,.int .i64 d,.int .i64 g,.int .i64 l,.int .i64 m,.string n]) 32 ?_;intro b hg w8 i o;have a:=a_ (i);have q:=a_ ((by rw[hg];exact(Ab (Ad)):w.heap.size≤b));have p:=a_ ((by rw[hg];exact(Ab (Ad)):w.heap.size≤b));replace HB:=a_ (BA (Ad) o);clear o i hg;obtain⟨bV,bW,bX,bY,bZ,b6,b7,bH,bI,bJ,bK,bL,bM,bN⟩:=Dz a.o)|((with_reducible refine BN (f:=17) rfl ?_);refine BR 7 Tryd.func17 #[.int .i64 c] ?_;(with_reducible refine(Cw.calls c true _ I.o).mono ?_);rintro e w' ⟨rfl,⟨nd,rfl⟩⟩;refine⟨_,rfl,?_⟩));go_ret;exact⟨C_,Ad⟩
  rw[if_neg c7]at H;have M:decide (40<j)=false:=C1 c7;clear c7;replace H:=BU H;obtain⟨v,y,H⟩:=H;try dsimp only at H
  have D:=a_ y;clear y;by_cases x:v=true
  ·subst x;have H1:((Cj.f g).bind λt=>(if d=1 then(some (t.1==c))else(some true)))=some r:=by rw[if_pos rfl]at H;exact H
   clear H;have H:=H1;clear H1;replace H:=BU H;obtain⟨⟨A,B⟩,z,H⟩:=H;try dsimp only at H
   have J:=a_ z;clear z;by_cases u:d=1
   ·rw[if_pos u]at H;have E:(d==1)=true:=beq_iff_eq.mpr u;have G:(d != 1)=false:=Ff u;clear u;obtain rfl:=C5 H;go_enter Tryd.func19,Tryd.ntmps19;go_wp2_with(first|((with_reducible refine Cd (N:=1) rfl ?_);refine CE 1 (#[.int .i64 c,.int .i64 j,.int .i64 d,.int .i64 g,.int .i64 l,.int .i64 m,.string n]) 32 ?_;intro b hg b_ i o;have a:=a_ (i);have q:=a_ ((by rw[hg];exact(Ab (Ad)):w.heap.size≤b));have p:=a_ ((by rw[hg];exact(Ab (Ad)):w.heap.size≤b));replace HB:=a_ (BA (Ad) o);clear o i hg;obtain⟨aP,aQ,aR,aS,aT,aU,aV,P,T,U,W,X,Y,Z⟩:=Dz a.o)|((with_reducible refine BN (f:=17) rfl ?_);refine BR 7 Tryd.func17 #[.int .i64 c] ?_;(with_reducible refine(Cw.calls c true _ I.o).mono ?_);rintro e w' ⟨rfl,⟨nd,rfl⟩⟩;refine⟨_,rfl,?_⟩)|(go_at_call 37;(with_reducible refine(Ew.calls k d g l m n true _ D.o ?q').mono ?_);(case q'=>exact B1.below HG.o (Ad));rintro e ca ⟨rfl,o⟩;replace HB:=a_ (BA (Ad) o);replace a:=a_ (C3 a.o o);(try clear o);obtain⟨aW,aX,aY,aZ,a0,a1,a2,aa,ab,ae,af,ag,ah,ai⟩:=Dz a.o)|((with_reducible refine BN (f:=38) rfl ?_);refine BR 29 Tryd.func38 #[.int .i64 g] ?_;(with_reducible refine(Cj.calls g A B _ J.o ?q').mono ?_);(case q'=>exact B1.below HG.o (Ad));rintro e w' ⟨rfl,⟨nd,rfl⟩⟩;refine⟨_,rfl,?_⟩));go_ret;exact⟨C_,Ad⟩
   rw[if_neg u]at H;have E:(d==1)=false:=Dq u;have G:(d != 1)=true:=bne_iff_ne.mpr u;obtain rfl:=C5 H;go_enter Tryd.func19,Tryd.ntmps19;go_wp2_with(first|((with_reducible refine Cd (N:=1) rfl ?_);refine CE 1 (#[.int .i64 c,.int .i64 j,.int .i64 d,.int .i64 g,.int .i64 l,.int .i64 m,.string n]) 32 ?_;intro b hg cb i o;have a:=a_ (i);have q:=a_ ((by rw[hg];exact(Ab (Ad)):w.heap.size≤b));have p:=a_ ((by rw[hg];exact(Ab (Ad)):w.heap.size≤b));replace HB:=a_ (BA (Ad) o);clear o i hg;obtain⟨a3,a4,a5,a6,a7,a8,a9,aj,ak,al,an,ao,aq,ar⟩:=Dz a.o)|((with_reducible refine BN (f:=17) rfl ?_);refine BR 7 Tryd.func17 #[.int .i64 c] ?_;(with_reducible refine(Cw.calls c true _ I.o).mono ?_);rintro e w' ⟨rfl,⟨nd,rfl⟩⟩;refine⟨_,rfl,?_⟩)|(go_at_call 37;(with_reducible refine(Ew.calls k d g l m n true _ D.o ?q').mono ?_);(case q'=>exact B1.below HG.o (Ad));rintro e cd ⟨rfl,o⟩;replace HB:=a_ (BA (Ad) o);replace a:=a_ (C3 a.o o);(try clear o);obtain⟨ba,bb,bc,bd,be,bf,bg,au,av,aw,ax,ay,az,aA⟩:=Dz a.o)|((with_reducible refine BN (f:=38) rfl ?_);refine BR 29 Tryd.func38 #[.int .i64 g] ?_;(with_reducible refine(Cj.calls g A B _ J.o ?q').mono ?_);(case q'=>exact B1.below HG.o (Ad));rintro e w' ⟨rfl,⟨nd,rfl⟩⟩;refine⟨_,rfl,?_⟩));go_ret;exact⟨C_,Ad⟩
  replace x:=Bool.eq_false_iff.mpr x;subst x;have H1:(some false)=some r:=by rw[if_neg (show¬ (false=true) by decide)]at H;exact H
  clear H;have H:=H1;clear H1;obtain rfl:=C5 H;go_enter Tryd.func19,Tryd.ntmps19;go_wp2_with(first|((with_reducible refine Cd (N:=1) rfl ?_);refine CE 1 (#[.int .i64 c,.int .i64 j,.int .i64 d,.int .i64 g,.int .i64 l,.int .i64 m,.string n]) 32 ?_;intro b hg cf i o;have a:=a_ (i);have q:=a_ ((by rw[hg];exact(Ab (Ad)):w.heap.size≤b));have p:=a_ ((by rw[hg];exact(Ab (Ad)):w.heap.size≤b));replace HB:=a_ (BA (Ad) o);clear o i hg;obtain⟨bh,bj,bk,bl,bm,bn,bo,aB,aC,aD,aE,aF,aG,aH⟩:=Dz a.o)|((with_reducible refine BN (f:=17) rfl ?_);refine BR 7 Tryd.func17 #[.int .i64 c] ?_;(with_reducible refine(Cw.calls c true _ I.o).mono ?_);rintro e w' ⟨rfl,⟨nd,rfl⟩⟩;refine⟨_,rfl,?_⟩)|(go_at_call 37;(with_reducible refine(Ew.calls k d g l m n false _ D.o ?q').mono ?_);(case q'=>exact B1.below HG.o (Ad));rintro e cg ⟨rfl,o⟩;replace HB:=a_ (BA (Ad) o);replace a:=a_ (C3 a.o o);(try clear o)));go_ret;exact⟨C_,Ad⟩
 replace c3:=Bool.eq_false_iff.mpr c3;subst c3;have H1:(some false)=some r:=by rw[if_neg (show¬ (false=true) by decide)]at H;exact H
 clear H;have H:=H1;clear H1;obtain rfl:=C5 H;go_enter Tryd.func19,Tryd.ntmps19;go_wp2_with(first|((with_reducible refine Cd (N:=1) rfl ?_);refine CE 1 (#[.int .i64 c,.int .i64 j,.int .i64 d,.int .i64 g,.int .i64 l,.int .i64 m,.string n]) 32 ?_;intro b hg cj i o;have a:=a_ (i);have q:=a_ ((by rw[hg];exact(Ab (Ad)):w.heap.size≤b));have p:=a_ ((by rw[hg];exact(Ab (Ad)):w.heap.size≤b));replace HB:=a_ (BA (Ad) o);clear o i hg;obtain⟨bp,bq,br,bu,bw,bx,bz,aI,aJ,aK,aL,aM,aN,aO⟩:=Dz a.o)|((with_reducible refine BN (f:=17) rfl ?_);refine BR 7 Tryd.func17 #[.int .i64 c] ?_;(with_reducible refine(Cw.calls c false _ I.o).mono ?_);rintro e w' ⟨rfl,⟨nd,rfl⟩⟩;refine⟨_,rfl,?_⟩));go_ret;exact⟨C_,Ad⟩
def DZ.f(k:Nat)(a:Int)(b:Int)(c:ByteArray):Option (Bool):=(Ck.f a).bind λd=>(if d=true then(if b=0 then(some (c.toList==([]:List UInt8)))else(some false))else((Bf.f a).bind λe=>(if e=true then((Aq.f b 1 18).bind λg=>(if g=true then((Bs.f k c).bind λi=>(some i))else(some false)))else(some false))))
theorem DZ.calls(k:Nat)(a:Int)(c:Int)(i:ByteArray)(r:Bool)(w:World)(h:DZ.f k a c i=some r) :
  Calls Tryd.prog 39 #[.agg #[.int .i64 a,.int .i64 c,.string i]] w λe w'=>e=.returned (.bool r)∧Below w.heap.size w w':=by
 have ax:=Tryd.underlying68;have HB:=a_ (Below.refl w.heap.size w);unfold DZ.f at h;have H:=h;clear h;replace H:=BU H;obtain⟨D,y,H⟩:=H;try dsimp only at H
 have x:=a_ y;clear y;by_cases c3:D=true
 ·subst c3;have H1:(if c=0 then(some (i.toList==([]:List UInt8)))else(some false))=some r:=by rw[if_pos rfl]at H;exact H
  clear H;have H:=H1;clear H1;by_cases c4:c=0
  ·rw[if_pos c4]at H;have A:(c==0)=true:=beq_iff_eq.mpr c4;have B:(c != 0)=false:=Ff c4;clear c4;obtain rfl:=C5 H;go_enter Tryd.func39,Tryd.ntmps39;go_wp2_with(first|((with_reducible refine Cd (N:=1) rfl ?_);refine CE 1 (#[.int .i64 a,.int .i64 c,.string i]) 68 ?_;intro b hg w5 d o;have g:=a_ (d);have m:=a_ ((by rw[hg];exact(Ab (Ad)):w.heap.size≤b));have l:=a_ ((by rw[hg];exact(Ab (Ad)):w.heap.size≤b));replace HB:=a_ (BA (Ad) o);clear o d hg;obtain⟨ao,aq,ar,ah,ai,aj⟩:=DK g.o)|((with_reducible refine BN (f:=40) rfl ?_);refine BR 5 Tryd.func40 #[.int .i64 a] ?_;(with_reducible refine(Ck.calls a true _ x.o).mono ?_);rintro e w' ⟨rfl,⟨nd,rfl⟩⟩;refine⟨_,rfl,?_⟩));go_ret;exact⟨C_,Ad⟩
  rw[if_neg c4]at H;have A:(c==0)=false:=Dq c4;have B:(c != 0)=true:=bne_iff_ne.mpr c4;obtain rfl:=C5 H;go_enter Tryd.func39,Tryd.ntmps39;go_wp2_with(first|((with_reducible refine Cd (N:=1) rfl ?_);refine CE 1 (#[.int .i64 a,.int .i64 c,.string i]) 68 ?_;intro b hg w7 d o;have g:=a_ (d);have m:=a_ ((by rw[hg];exact(Ab (Ad)):w.heap.size≤b));have l:=a_ ((by rw[hg];exact(Ab (Ad)):w.heap.size≤b));replace HB:=a_ (BA (Ad) o);clear o d hg;obtain⟨au,av,aw,ak,al,an⟩:=DK g.o)|((with_reducible refine BN (f:=40) rfl ?_);refine BR 5 Tryd.func40 #[.int .i64 a] ?_;(with_reducible refine(Ck.calls a true _ x.o).mono ?_);rintro e w' ⟨rfl,⟨nd,rfl⟩⟩;refine⟨_,rfl,?_⟩));go_ret;exact⟨C_,Ad⟩
 replace c3:=Bool.eq_false_iff.mpr c3;subst c3;have H1:((Bf.f a).bind λp=>(if p=true then((Aq.f c 1 18).bind λn=>(if n=true then((Bs.f k i).bind λj=>(some j))else(some false)))else(some false)))=some r:=by rw[if_neg (show¬ (false=true) by decide)]at H;exact H
 clear H;have H:=H1;clear H1;replace H:=BU H;obtain⟨p,z,H⟩:=H;try dsimp only at H
 have G:=a_ z;clear z;by_cases Dr:p=true
 ·subst Dr;have H1:((Aq.f c 1 18).bind λn=>(if n=true then((Bs.f k i).bind λj=>(some j))else(some false)))=some r:=by rw[if_pos rfl]at H;exact H
  clear H;have H:=H1;clear H1;replace H:=BU H;obtain⟨n,t,H⟩:=H;try dsimp only at H
  have v:=a_ t;clear t;by_cases q:n=true
  ·subst q;have H1:((Bs.f k i).bind λj=>(some j))=some r:=by rw[if_pos rfl]at H;exact H
   clear H;have H:=H1;clear H1;replace H:=BU H;obtain⟨j,u,H⟩:=H;try dsimp only at H
   have E:=a_ u;clear u;obtain rfl:=C5 H;go_enter Tryd.func39,Tryd.ntmps39;go_wp2_with(first|((with_reducible refine Cd (N:=1) rfl ?_);refine CE 1 (#[.int .i64 a,.int .i64 c,.string i]) 68 ?_;intro b hg ay d o;have g:=a_ (d);have m:=a_ ((by rw[hg];exact(Ab (Ad)):w.heap.size≤b));have l:=a_ ((by rw[hg];exact(Ab (Ad)):w.heap.size≤b));replace HB:=a_ (BA (Ad) o);clear o d hg;obtain⟨W,X,Y,I,J,K⟩:=DK g.o)|((with_reducible refine BN (f:=40) rfl ?_);refine BR 5 Tryd.func40 #[.int .i64 a] ?_;(with_reducible refine(Ck.calls a false _ x.o).mono ?_);rintro e w' ⟨rfl,⟨nd,rfl⟩⟩;refine⟨_,rfl,?_⟩)|((with_reducible refine BN (f:=31) rfl ?_);refine BR 16 Tryd.func31 #[.int .i64 a] ?_;(with_reducible refine(Bf.calls a true _ G.o).mono ?_);rintro e w' ⟨rfl,⟨nd,rfl⟩⟩;refine⟨_,rfl,?_⟩)|(go_at_call 20;(with_reducible refine(Aq.calls c 1 18 true _ v.o).mono ?_);rintro e w' ⟨rfl,⟨nd,rfl⟩⟩)|(go_at_call 32;(with_reducible refine(Bs.calls k i j _ E.o).mono ?_);rintro e w' ⟨rfl,⟨nd,rfl⟩⟩));go_ret;exact⟨C_,Ad⟩
  replace q:=Bool.eq_false_iff.mpr q;subst q;have H1:(some false)=some r:=by rw[if_neg (show¬ (false=true) by decide)]at H;exact H
  clear H;have H:=H1;clear H1;obtain rfl:=C5 H;go_enter Tryd.func39,Tryd.ntmps39;go_wp2_with(first|((with_reducible refine Cd (N:=1) rfl ?_);refine CE 1 (#[.int .i64 a,.int .i64 c,.string i]) 68 ?_;intro b hg az d o;have g:=a_ (d);have m:=a_ ((by rw[hg];exact(Ab (Ad)):w.heap.size≤b));have l:=a_ ((by rw[hg];exact(Ab (Ad)):w.heap.size≤b));replace HB:=a_ (BA (Ad) o);clear o d hg;obtain⟨Z,aa,ab,L,M,O⟩:=DK g.o)|((with_reducible refine BN (f:=40) rfl ?_);refine BR 5 Tryd.func40 #[.int .i64 a] ?_;(with_reducible refine(Ck.calls a false _ x.o).mono ?_);rintro e w' ⟨rfl,⟨nd,rfl⟩⟩;refine⟨_,rfl,?_⟩)|((with_reducible refine BN (f:=31) rfl ?_);refine BR 16 Tryd.func31 #[.int .i64 a] ?_;(with_reducible refine(Bf.calls a true _ G.o).mono ?_);rintro e w' ⟨rfl,⟨nd,rfl⟩⟩;refine⟨_,rfl,?_⟩)|(go_at_call 20;(with_reducible refine(Aq.calls c 1 18 false _ v.o).mono ?_);rintro e w' ⟨rfl,⟨nd,rfl⟩⟩));go_ret;exact⟨C_,Ad⟩
 replace Dr:=Bool.eq_false_iff.mpr Dr;subst Dr;have H1:(some false)=some r:=by rw[if_neg (show¬ (false=true) by decide)]at H;exact H
 clear H;have H:=H1;clear H1;obtain rfl:=C5 H;go_enter Tryd.func39,Tryd.ntmps39;go_wp2_with(first|((with_reducible refine Cd (N:=1) rfl ?_);refine CE 1 (#[.int .i64 a,.int .i64 c,.string i]) 68 ?_;intro b hg aA d o;have g:=a_ (d);have m:=a_ ((by rw[hg];exact(Ab (Ad)):w.heap.size≤b));have l:=a_ ((by rw[hg];exact(Ab (Ad)):w.heap.size≤b));replace HB:=a_ (BA (Ad) o);clear o d hg;obtain⟨ae,af,ag,P,T,U⟩:=DK g.o)|((with_reducible refine BN (f:=40) rfl ?_);refine BR 5 Tryd.func40 #[.int .i64 a] ?_;(with_reducible refine(Ck.calls a false _ x.o).mono ?_);rintro e w' ⟨rfl,⟨nd,rfl⟩⟩;refine⟨_,rfl,?_⟩)|((with_reducible refine BN (f:=31) rfl ?_);refine BR 16 Tryd.func31 #[.int .i64 a] ?_;(with_reducible refine(Bf.calls a false _ G.o).mono ?_);rintro e w' ⟨rfl,⟨nd,rfl⟩⟩;refine⟨_,rfl,?_⟩));go_ret;exact⟨C_,Ad⟩
end Go.Proofs.YtlhlpfnljglhoaaDoor.P
namespace Go.Proofs.YtlhlpfnljglhoaaDoor.PL
open Go.RowKit Go.Proofs.YtlhlpfnljglhoaaDoor.P Go.Proofs.YtlhlpfnljglhoaaDoorW.PrintWords Go.Proofs.YtlhlpfnljglhoaaDoorW.Bc
theorem AW{α:Type}(a:α):Ev (λ_=>some a) a:=⟨0,λ_ _=>rfl⟩
theorem AE{α:Type}{c:Prop}[Decidable c]{f g:Nat->Option α}{r:α}(h:¬ c)(k:Ev g r):Ev (λn=>if c then f n else g n) r:=Ev.congr (λ_=>if_neg h) k
theorem Ao{α:Type}{c:Prop}[Decidable c]{f g:Nat->Option α}{r:α}(h:c)(k:Ev f r):Ev (λn=>if c then f n else g n) r:=Ev.congr (λ_=>if_pos h) k
theorem ET(i:Int)(h0:0≤i)(h:i≤4611686018427387904):wrap64 (i+1)=i+1:=by unfold wrap64;omega
theorem OE(i:Int)(h0:0≤i)(h:i+1≤9223372036854775807):wrap64 (i+1)=i+1:=by unfold wrap64;omega
def EG(a:Int):Prop:=-9223372036854775808≤a∧a≤9223372036854775807
def DF(a:Int):Bool:=decide (EV a≠0)&&decide (EV a≠1)
def ES(a:Int):Bool:=decide (1≤a)&&decide (a≤3)
theorem Hw(a b c:Int):Aq.f a b c=some (decide (b≤a)&&decide (a≤c)):=by
 unfold Aq.f;by_cases h:a≥b
 ·rw[if_pos h];simp[h]
 rw[if_neg h];simp[show¬ b≤a from h]
theorem Hd(a:Int)(h:a<0∨37≤a):EV a=0:=by unfold EV;rw[if_neg (by omega)]
theorem KO:∀n:Nat,n<37->(decide (1≤Int.tdiv (n:Int) 10)&&decide (Int.tdiv (n:Int) 10≤3))=true->(decide (1≤Int.tmod (n:Int) 10)&&decide (Int.tmod (n:Int) 10≤6))=DF n:=by decide
theorem JN:∀n:Nat,n<37->(decide (1≤Int.tdiv (n:Int) 10)&&decide (Int.tdiv (n:Int) 10≤3))=false->DF n=false:=by decide
theorem L8:∀n:Nat,n<37->DF n=true->EV n-1=Int.tdiv (n:Int) 10:=by decide
theorem KP:∀n:Nat,n<37->(decide (EV n≠0)&&decide (EV n-1=0))=ES n:=by decide
theorem Je(a:Int)(h:EG a):wrap64 (Int.tdiv a 10)=Int.tdiv a 10:=by
 obtain⟨h1,b⟩:=h
 have:Int.tdiv a 10≤9223372036854775807∧-9223372036854775808≤Int.tdiv a 10:=by
  rcases Int.le_total 0 a with h0|h0
  ·rw[Int.tdiv_eq_ediv_of_nonneg h0];omega
  have e:Int.tdiv a 10=-(Int.tdiv (-a) 10):=by rw[Int.neg_tdiv,Int.neg_neg]
  rw[e,Int.tdiv_eq_ediv_of_nonneg (by omega)];omega
 unfold wrap64;omega
theorem FW(a:Int)(h:EG a):Bf.f a=some (DF a):=by
 unfold Bf.f;rw[Hw,Hw,Je a h];simp only[Option.bind_some];by_cases hs:0≤a∧a<37
 ·obtain⟨n,rfl⟩:∃n:Nat,a=n:=⟨a.toNat,by omega⟩
  have d:n<37:=by omega
  cases c:(decide (1≤Int.tdiv (n:Int) 10)&&decide (Int.tdiv (n:Int) 10≤3))with
  | true=>rw[if_pos rfl,KO n d c]
  | false=>rw[if_neg (by decide),JN n d c]
 have k:DF a=false:=by unfold DF;rw[Hd a (by omega)];rfl
 rw[k];rcases Int.lt_or_le a 0 with h0|h0
 ·have e:Int.tdiv a 10=-(Int.tdiv (-a) 10):=by rw[Int.neg_tdiv,Int.neg_neg]
  have h1:Int.tdiv a 10≤0:=by rw[e,Int.tdiv_eq_ediv_of_nonneg (by omega)];omega
  have j:decide (1≤Int.tdiv a 10)=false:=C1 (by omega);rw[j];simp
 have g:=Int.tdiv_eq_ediv_of_nonneg (b:=10) h0;have i:Int.tmod a 10=a % 10:=Int.tmod_eq_emod_of_nonneg h0;rw[g,i];by_cases h3:a / 10≤3
 ·have h4:decide (a % 10≤6)=false:=C1 (by omega);rw[h4];simp
 have h4:decide (a / 10≤3)=false:=C1 h3;rw[h4];simp
theorem G8(a:Int):AK.f a=some (DF a):=by
 unfold AK.f Cj.f DF;simp only[Option.bind_some];by_cases h0:EV a=0
 ·rw[if_pos h0];simp[h0]
 rw[if_neg h0];by_cases h1:EV a=1
 ·simp[h1]
 simp[h0,h1];omega
theorem G9(a:Int):BP.f a=some (ES a):=by
 unfold BP.f Cj.f;simp only[Option.bind_some];by_cases hs:0≤a∧a<37
 ·obtain⟨n,rfl⟩:∃n:Nat,a=n:=⟨a.toNat,by omega⟩
  have:=KP n (by omega);rw[<-this];by_cases h0:EV (n:Int)=0
  ·rw[if_pos h0];simp[h0]
  rw[if_neg h0];by_cases h1:EV (n:Int)-1=0 <;> simp[h0,h1]
 rw[if_pos (Hd a (by omega))];have:ES a=false:=by unfold ES;simp;omega
 rw[this];simp
theorem JM(a:Int):Ck.f a=some (ES a):=by unfold Ck.f;rw[Hw];rfl
def NL(a:Int):Bool:=ES a || DF a
theorem Qz(a:Int)(h:EG a):C2.f a=some (NL a):=by unfold C2.f NL;rw[JM,FW a h];simp only[Option.bind_some];cases ES a <;> simp
def FY(u a:Int):Bool:=NL u&&(decide (a=0) || DF a)
theorem NY(u a:Int):Cm.f u a=some (FY u a):=by
 unfold Cm.f FY NL;rw[G8,G8,G9];simp only[Option.bind_some];by_cases h:a=0
 ·simp only[h,if_true];cases DF u <;> cases ES u <;> simp
 simp only[h,if_false];cases DF u <;> cases ES u <;> simp
def Fb(s:ByteArray)(i:Nat):Nat->Bool
 | 0=>true
 | n+1=>decide (97≤bt s i)&&decide (bt s i≤100)&&Fb s (i+1) n
def Fl(s:ByteArray):Bool:=Fb s 0 s.size&&decide (s.size≤4)
theorem Mz(s:ByteArray)(i:Int):0≤bt s i∧bt s i≤255:=by
 unfold bt;split
 ·rename_i h;have:=(s[i.toNat]'h).toNat_lt;omega
 omega
theorem Lt(s:ByteArray)(hs:s.size≤9223372036854775807):∀(n:Nat) (i:Nat),i+n=s.size->Ev (λk=>Bs.l0 k s i) (Fb s i n&&decide (s.size≤4))
 | 0,i,h=>by
  refine Ev.step (f:=λ_=>some (decide ((s.size:Int)≤4))) (λk=>?_) ?_
  ·simp only[Bs.l0];rw[if_neg (by omega)]
  ·have:decide ((s.size:Int)≤4)=(Fb s i 0&&decide (s.size≤4)):=by simp[Fb];omega
   rw[this];exact AW _
 | n+1,i,h=>by
  have hw:wrap64 (bt s i)=bt s i:=by have:=Mz s i;unfold wrap64;omega
  unfold Fb
  cases a:(decide (97≤bt s i)&&decide (bt s i≤100))with
  | true =>
   rw[Bool.true_and]
   refine Ev.step (λk=>?_) (Lt s hs n (i+1) (by omega))
   simp only[Bs.l0]
   rw[if_pos (by omega),if_pos (by omega),hw,Hw,a,Option.bind_some,if_pos rfl,OE i (by omega) (by omega)]
   rfl
  | false =>
   rw[Bool.false_and,Bool.false_and]
   refine Ev.step (f:=λ_=>some false) (λk=>?_) (AW _)
   simp only[Bs.l0]
   rw[if_pos (by omega),if_pos (by omega),hw,Hw,a,Option.bind_some,if_neg (by decide)]
theorem KQ(s:ByteArray)(hs:s.size≤9223372036854775807):Ev (λk=>Bs.f k s) (Fl s):=Lt s hs s.size 0 (by omega)
theorem J7(s:ByteArray)(hs:s.size≤9223372036854775807):∀(n:Nat) (i:Nat),i+n=s.size->Ev (λk=>Bn.l0 k s i) (Fb s i n)
 | 0,i,h=>by
  refine Ev.step (f:=λ_=>some true) (λk=>?_) (AW _)
  simp only[Bn.l0];rw[if_neg (by omega)]
 | n+1,i,h=>by
  unfold Fb
  by_cases h1:bt s i<97
  ·have:decide (97≤bt s i)=false:=C1 (by omega)
   rw[this,Bool.false_and,Bool.false_and]
   refine Ev.step (f:=λ_=>some false) (λk=>?_) (AW _)
   simp only[Bn.l0]
   rw[if_pos (by omega),if_pos (by omega),if_pos h1]
  ·by_cases a:bt s i>100
   ·have:decide (bt s i≤100)=false:=C1 (by omega)
    rw[this,Bool.and_false,Bool.false_and]
    refine Ev.step (f:=λ_=>some false) (λk=>?_) (AW _)
    simp only[Bn.l0]
    rw[if_pos (by omega),if_pos (by omega),if_neg h1,if_pos a]
   ·have b:decide (97≤bt s i)=true:=BJ (by omega)
    have c:decide (bt s i≤100)=true:=BJ (by omega)
    rw[b,c,Bool.true_and,Bool.true_and]
    refine Ev.step (λk=>?_) (J7 s hs n (i+1) (by omega))
    simp only[Bn.l0]
    rw[if_pos (by omega),if_pos (by omega),if_neg h1,if_neg a,OE i (by omega) (by omega)]
    rfl
theorem JB(s:ByteArray)(hs:s.size≤9223372036854775807):Ev (λk=>Bn.f k s) (Fl s):=by
 unfold Bn.f Fl;by_cases h:(s.size:Int)>4
 ·refine Ao h ?_;have:decide (s.size≤4)=false:=C1 (by omega);rw[this,Bool.and_false];exact AW _
 refine AE h ?_;have:decide (s.size≤4)=true:=BJ (by omega);rw[this,Bool.and_true];exact J7 s hs s.size 0 (by omega)
theorem Kl(s:ByteArray)(h:s.toList.isEmpty=true):Fl s=true:=by
 have:s.size=0:=by
  have a:=List.isEmpty_iff.1 h;have h3:s.toList.length=s.size:=by rw[Go.ByteArray.toList_eq];exact Array.length_toList
  rw[<-h3,a];rfl
 unfold Fl;rw[this];rfl
def Kp(k i u a:Int)(s:ByteArray):Bool :=
 DF i&&(if k=1 then FY u a&&Fl s else if k=2 then decide (u=0)&&decide (a=0)&&Fl s else if k=3 then FY u a&&s.toList.isEmpty else false)
theorem Pj(k i u a:Int)(s:ByteArray)(hs:s.size≤9223372036854775807):Ev (λn=>Ew.f n k i u a s) (Kp k i u a s):=by
 unfold Ew.f Ed.f Kp;rw[G8];simp only[Option.bind_some];cases DF i with
 | false=>simp only[Bool.false_eq_true,if_false,Bool.false_and];exact AW _
 | true =>
  simp only[if_true,Bool.true_and,NY,Option.bind_some]
  by_cases h1:k=1
  ·simp only[h1,if_true]
   cases FY u a with
   | true=>simp only[if_true,Bool.true_and];exact JB s hs
   | false=>simp only[Bool.false_eq_true,if_false,Bool.false_and];exact AW _
  ·simp only[h1,if_false]
   by_cases b:k=2
   ·simp only[b,if_true]
    by_cases h3:u=0
    ·by_cases h4:a=0
     ·simp only[h3,h4,if_true,decide_true,Bool.true_and];exact JB s hs
     ·simp only[h3,h4,if_true,if_false,decide_true,decide_false,Bool.true_and,Bool.false_and];exact AW _
    ·simp only[h3,if_false,decide_false,Bool.false_and];exact AW _
   ·simp only[b,if_false]
    by_cases h3:k=3
    ·simp only[h3,if_true]
     cases FY u a with
     | true=>simp only[if_true,Bool.true_and];exact AW _
     | false=>simp only[Bool.false_eq_true,if_false,Bool.false_and];exact AW _
    ·simp only[h3,if_false];exact AW _
theorem Qk(k i u a:Int)(s:ByteArray)(hi:EG i)(hu:EG u)(g:EG a)(hs:s.size≤9223372036854775807):Ev (λn=>Cl.f n k i u a s) (Kp k i u a s):=by
 unfold Cl.f Kp;rw[FW i hi];simp only[Option.bind_some];cases DF i with
 | false =>
  simp only[Bool.false_eq_true,if_false,Bool.false_and]
  refine Ev.step (f:=λ_=>some false) (λn=>?_) (AW _)
  simp only[Cl.j0,if_true]
 | true =>
  simp only[if_true,Bool.true_and]
  refine Ev.bind (KQ s hs) ?_
  have j:(NL u&&(decide (a=0) || DF a))=FY u a:=rfl
  cases e:Fl s with
  | false =>
   have c:s.toList.isEmpty=false:=by
    cases he:s.toList.isEmpty with
    | false=>rfl
    | true=>rw[Kl s he]at e;cases e
   refine Ev.step (f:=λ_=>some false) (λn=>?_) ?_
   ·simp only[Cl.j0,Bool.not_false,if_true]
   ·simp only[c,Bool.and_false,ite_self]
    exact AW _
  | true =>
   refine Ev.step (f:=λ_=>some (if k=1 then FY u a&&true else if k=2 then decide (u=0)&&decide (a=0)&&true else if k=3 then FY u a&&s.toList.isEmpty else false)) (λn=>?_) (AW _)
   simp only[Cl.j0,Bool.not_true,Bool.false_eq_true,if_false]
   rw[Qz u hu,FW a g]
   simp only[Option.bind_some,Bool.and_true]
   rw[<-j]
   have b:(s.toList==([]:List UInt8))=s.toList.isEmpty:=by cases s.toList <;> rfl
   rw[b]
   by_cases h1:k=1
   ·simp only[h1,if_true]
    by_cases h4:a=0
    ·simp only[h4,if_true,decide_true,Bool.true_or,Bool.and_true];cases NL u <;> simp
    ·simp only[h4,if_false,decide_false,Bool.false_or];cases NL u <;> simp
   ·simp only[h1,if_false]
    by_cases d:k=2
    ·simp only[d,if_true]
     by_cases h3:u=0
     ·simp[h3];by_cases h4:a=0 <;> simp[h4]
     ·simp[h3]
    ·simp only[d,if_false]
     by_cases h3:k=3
     ·simp only[h3,if_true]
      by_cases h4:a=0
      ·simp only[h4,if_true,decide_true,Bool.true_or,Bool.and_true];cases NL u <;> simp
      ·simp only[h4,if_false,decide_false,Bool.false_or];cases NL u <;> cases DF a <;> simp
     ·simp only[h3,if_false]
theorem GN(a:Int)(h:DF a=true):0≤a∧a<37:=by
 rcases Int.lt_or_le a 0 with h0|h0
 ·unfold DF at h;rw[Hd a (by omega)]at h;simp at h
 rcases Int.lt_or_le a 37 with h1|h1
 ·exact⟨h0,h1⟩
 unfold DF at h;rw[Hd a (by omega)]at h;simp at h
theorem Iu(k i u a:Int)(s:ByteArray)(h:Kp k i u a s=true):DF i=true:=by unfold Kp at h;simp only[Bool.and_eq_true]at h;exact h.1
def GS(r:Ba):Bool:=if ES r.f0 then decide (r.f1=0)&&(r.f2.toList==([]:List UInt8))else DF r.f0&&(decide (1≤r.f1)&&(decide (r.f1≤18)&&Fl r.f2))
theorem LP(s:ByteArray):Ev (λk=>Bn.f k s) (Fl s):=by
 by_cases hs:s.size≤9223372036854775807
 ·exact JB s hs
 have e:Fl s=false:=by unfold Fl;simp;omega
 rw[e];refine Ev.congr (λk=>?_) (AW false);unfold Bn.f;exact if_pos (by omega)
theorem Qg(r:Ba):Ev (λk=>Dx.f k r.f0 r.f1 r.f2) (GS r):=by
 unfold Dx.f GS;rw[G9,G8];simp only[Option.bind_some];cases ES r.f0 with
 | true =>
  simp only[if_true]
  by_cases h:r.f1=0
  ·simp only[h,if_true,decide_true,Bool.true_and];exact AW _
  ·simp only[h,if_false,decide_false,Bool.false_and];exact AW _
 | false =>
  cases DF r.f0 with
  | false=>simp only[Bool.false_eq_true,if_false,Bool.false_and];exact AW _
  | true =>
   simp only[Bool.false_eq_true,if_false,if_true,Bool.true_and]
   by_cases h1:1≤r.f1
   ·refine Ao h1 ?_
    by_cases a:r.f1≤18
    ·refine Ao a ?_
     simp only[h1,a,decide_true,Bool.true_and]
     exact Ev.bind (LP r.f2) (AW _)
    ·refine AE a ?_
     simp only[h1,a,decide_true,decide_false,Bool.true_and,Bool.false_and]
     exact AW _
   ·refine AE h1 ?_
    simp only[h1,decide_false,Bool.false_and]
    exact AW _
theorem Na(r:Ba)(hi:EG r.f0)(hs:r.f2.size≤9223372036854775807):Ev (λk=>DZ.f k r.f0 r.f1 r.f2) (GS r):=by
 unfold DZ.f GS;rw[JM,FW _ hi,Hw];simp only[Option.bind_some];cases ES r.f0 with
 | true =>
  simp only[if_true]
  by_cases h:r.f1=0
  ·simp only[h,if_true,decide_true,Bool.true_and];exact AW _
  ·simp only[h,if_false,decide_false,Bool.false_and];exact AW _
 | false =>
  cases DF r.f0 with
  | false=>simp only[Bool.false_eq_true,if_false,Bool.false_and];exact AW _
  | true =>
   simp only[Bool.false_eq_true,if_false,if_true,Bool.true_and]
   cases h:(decide (1≤r.f1)&&decide (r.f1≤18))with
   | true =>
    simp only[Bool.and_eq_true]at h
    rw[h.1,h.2]
    simp only[if_true,Bool.true_and]
    exact Ev.bind (KQ r.f2 hs) (AW _)
   | false =>
    rw[<-Bool.and_assoc,h]
    simp only[Bool.false_eq_true,if_false,Bool.false_and]
    exact AW _
end Go.Proofs.YtlhlpfnljglhoaaDoor.PL
namespace Go.Proofs.YtlhlpfnljglhoaaDoor.P
open Go.RowKit Go.Proofs.YtlhlpfnljglhoaaDoorW.PrintWords Go.Proofs.YtlhlpfnljglhoaaDoorW.Bc Go.Proofs.YtlhlpfnljglhoaaDoorW.C6 Go.Proofs.YtlhlpfnljglhoaaDoor.PL
def EE(seen:List Int)(roots depth:Int):List Ba->Bool
 | []=>decide (roots=3)
 | r::rest=>GS r&&(decide (r.f0∉seen)&&(decide (r.f1≤depth+1) &&
   (if ES r.f0 then decide (r.f0=roots+1)&&EE (r.f0::seen) (roots+1) r.f1 rest else EE (r.f0::seen) roots r.f1 rest)))
def Jh(l:List Ba):Bool:=EE [] 0 (-1) l
def ER.f(k:Nat)(l0:List Ba):Option Bool:=some (Jh l0)
def FZ(seen:List Int):Array Value:=((List.range 37).map λi:Nat=>Value.int .i64 (if(i:Int)∈seen then 1 else 0)).toArray
theorem Iz(seen:List Int)(i:Nat)(hi:i<37):(FZ seen)[i]?=some (.int .i64 (if(i:Int)∈seen then 1 else 0)):=by simp[FZ,hi]
theorem KS(seen:List Int)(i:Nat)(hi:i<37)(hs:(i:Int)∉seen):(FZ seen).setIfInBounds i (.int .i64 1)=FZ ((i:Int)::seen):=by
 unfold FZ;rw[List.setIfInBounds_toArray];congr 1;apply List.ext_getElem (by simp);intro k h1 b;simp only[List.getElem_set,List.getElem_map,List.getElem_range,List.mem_cons];by_cases a:i=k
 ·subst a;simp
 have:¬ ((k:Int)=(i:Int)):=λe=>a (by omega)
 rw[if_neg a];simp[this]
theorem Lp{r:Ba}(h:GS r=true):0≤r.f0∧r.f0<37∧0≤r.f1∧r.f1≤18:=by
 unfold GS at h;by_cases a:ES r.f0=true
 ·rw[if_pos a]at h;unfold ES at a;simp only[Bool.and_eq_true,decide_eq_true_eq]at a h;omega
 rw[if_neg a]at h;simp only[Bool.and_eq_true,decide_eq_true_eq]at h;have:=GN _ h.1;omega
def Nx(l0:List Ba)(r:Bool)(w:World)(ro a i:Value)(wr:World):Prop :=
 ∃(j roots depth:Int) (seen:List Int),0≤j∧j≤l0.length∧i=.int .i64 j∧ro=.int .i64 roots∧a=.int .i64 depth∧(0≤roots∧roots≤3)∧(-1≤depth∧depth≤18)∧Ae (EE seen roots depth (l0.drop j.toNat)=r) ∧
  Ae (wr.heap[w.heap.size]?=some (.cells (FZ seen) 66 (0,0)))∧Ae (Below w.heap.size w wr)
theorem ER.calls(k:Nat)(A0:Option Addr)(c0:Nat)(l0:List Ba)(r:Bool)(w:World)(K:Kd.C Dj w A0 l0.length l0)(av:l0.length≤c0)(h:ER.f k l0=some r)(hG:B1 w) :
  Calls Tryd.prog 18 #[.slice A0 l0.length c0] w λe w'=>e=.returned (.bool r)∧Below w.heap.size w w':=by
 have hlen:=K.2.1;have aa:=a_ K;have HG:=a_ hG;have HH:=a_ (C5 h);clear K hG h;go_enter Tryd.func18,Tryd.ntmps18;go_wp2;go_loopw [4,5,10] (λro dp i wr=>Nx l0 r w ro dp i wr) (λ_ _ i _=>l0.length-(intOf i).toNat);case atStart=>exact⟨0,0,-1,[],Int.le_refl _,by omega,rfl,rfl,rfl,by omega,by omega,HH,⟨heap_alloc_new w (.cells (FZ []) 66)⟩,⟨BW w _⟩⟩
 obtain⟨j,roots,depth,seen,E,hj,rfl,rfl,rfl,Y,W,p,HT,HB⟩:=hrel;clear HH;by_cases u:j<l0.length
 ·have ae:decide (j<(l0.length:Int))=true:=BJ u;obtain⟨ad,e,G,L,M⟩:=BV aa.o j E u;cases e;replace G:=(Au HB.o G:)
  replace L:=(Au HB.o L:)
  replace M:=(Au HB.o M:)
  have hu:=Tryd.underlying68;have Z:Ag l0 j=l0[j.toNat]'(by omega):=by unfold Ag;rw[List.getD_eq_getElem?_getD,List.getElem?_eq_getElem (by omega)];rfl
  have A:=List.drop_eq_getElem_cons (l:=l0) (i:=j.toNat) (by omega);rw[<-Z]at A;have a:=p.o;rw[A]at a;clear p Z;generalize Ag l0 j=x at G L M A a;rw[show j.toNat+1=(j+1).toNat by omega]at A a;unfold EE at a;obtain⟨O,X⟩:=Qg x;have q:=a_ (X O (Nat.le_refl _));have p1:=eq_true E;have q1:=eq_true u;have p:=a_ a;have aq:=a_ A;have P:=a_ (And.intro E (And.intro u (And.intro Y W)));have HL:=a_ (show w.heap.size<wr.heap.size from AU HT.o);have o:=a_ (FL HB.o (.cells #[.int .i64 x.f0,.int .i64 x.f1,.string x.f2] 68));have t:=a_ (Eb HT.o (.cells #[.int .i64 x.f0,.int .i64 x.f1,.string x.f2] 68));clear E u A a X HB HT Y W;by_cases n:GS x=true
  ·have hid:=Lp n;rw[n]at q;have a:=p.o;rw[n,Bool.true_and]at a;clear p n;obtain⟨i,hi⟩:=Int.eq_ofNat_of_zero_le hid.1;have B:i<37:=by omega
   have ah:w.heap.size≠wr.heap.size:=by have:=HL.o;omega
   have al:wr.heap.size≠w.heap.size:=λe=>ah e.symm
   have i0:0≤(i:Int):=by omega
   have i37:(i:Int)<37:=by omega
   have aw:0≤x.f1:=hid.2.2.1;have ak:x.f1≤18:=hid.2.2.2;have ai:-1≤depth:=P.o.2.2.2.1;have aj:depth≤18:=P.o.2.2.2.2;rw[hi]at a q o t G;have ar:=a_ hi;clear hi hid;by_cases hs:(i:Int)∈seen
   ·have z:=a_ (show(FZ seen)[i]?=some (.int .i64 1) by rw[Iz seen i B,if_pos hs]);have hr:r=false:=by rw[<-a,C1 (λh=>h hs)];rfl
    clear a hs;subst hr;go_wp2_with(go_at_call 35;refine(Dx.calls O (i:Int) x.f1 x.f2 true _ q.o (HG.o.below o.o)).mono ?_;rintro e W2 ⟨rfl,m⟩;have g:=a_ (BA o.o m);have c:=a_ (Az t.o m);have d:=a_ (Az (EL wr _) m);clear m;have d0:=(AO d.o 0).trans rfl;have d1:=(AO d.o 1).trans rfl;have t0:=(AO c.o i).trans z.o;have tf:=DT c.o i);go_ret;exact⟨rfl,g.o⟩
   have z:=a_ (show(FZ seen)[i]?=some (.int .i64 0) by rw[Iz seen i B,if_neg hs]);have U:=a_ (KS seen i B hs);rw[BJ hs,Bool.true_and]at a;clear hs;by_cases v:x.f1≤depth+1
   ·have af:decide (depth+1<x.f1)=false:=C1 (by omega);rw[BJ v,Bool.true_and]at a;clear v;by_cases b:ES (i:Int)=true
    ·have y:=a_ (G9 (i:Int));rw[b]at y;rw[if_pos b]at a;have ax:1≤i∧i≤3:=by unfold ES at b;simp at b;omega
     have an:0≤roots:=P.o.2.2.1.1;have ao:roots≤3:=P.o.2.2.1.2;clear b;by_cases J:(i:Int)=roots+1
     ·have ab:((i:Int) != roots+1)=false:=bne_eq_false_iff_eq.2 J;rw[BJ J,Bool.true_and]at a;have HN:=a_ J;have p:=a_ a;clear J a;go_wp2_with(first|(go_at_call 35;refine(Dx.calls O (i:Int) x.f1 x.f2 true _ q.o (HG.o.below o.o)).mono ?_;rintro e W2 ⟨rfl,m⟩;have g:=a_ (BA o.o m);have c:=a_ (Az t.o m);have d:=a_ (Az (EL wr _) m);clear m;have d0:=(AO d.o 0).trans rfl;have d1:=(AO d.o 1).trans rfl;have t0:=(AO c.o i).trans z.o;have tf:=DT c.o i)|(go_at_call 36;refine(BP.calls (i:Int) true _ y.o (HG.o.below (EK g.o (Nat.le_refl _)))).mono ?_;rintro e w' ⟨rfl,⟨nd,rfl⟩⟩));have ag:=P.o;have D:wrap64 (j+1)=j+1:=by unfold wrap64;omega
      refine⟨⟨j+1,roots+1,x.f1,(i:Int)::seen,by omega,by omega,by first|rfl|rw[D],rfl,rfl,by have:=HN.o;omega,by omega,p,⟨?_⟩,⟨At (EK g.o (Nat.le_refl _)) _⟩⟩,?_⟩
      ·have:=E8 c.o i (.int .i64 1);rw[U.o]at this;exact this
      first|(show l0.length-(j+1).toNat<l0.length-j.toNat;omega)|(rw[D];show l0.length-(j+1).toNat<l0.length-j.toNat;omega)
     have ab:((i:Int) != roots+1)=true:=bne_iff_ne.2 J;rw[C1 J,Bool.false_and]at a;subst a;clear J;go_wp2_with(first|(go_at_call 35;refine(Dx.calls O (i:Int) x.f1 x.f2 true _ q.o (HG.o.below o.o)).mono ?_;rintro e W2 ⟨rfl,m⟩;have g:=a_ (BA o.o m);have c:=a_ (Az t.o m);have d:=a_ (Az (EL wr _) m);clear m;have d0:=(AO d.o 0).trans rfl;have d1:=(AO d.o 1).trans rfl;have t0:=(AO c.o i).trans z.o;have tf:=DT c.o i)|(go_at_call 36;refine(BP.calls (i:Int) true _ y.o (HG.o.below (EK g.o (Nat.le_refl _)))).mono ?_;rintro e w' ⟨rfl,⟨nd,rfl⟩⟩));go_ret;exact⟨rfl,At (EK g.o (Nat.le_refl _)) _⟩
    have b:ES (i:Int)=false:=by simpa using b
    have y:=a_ (G9 (i:Int));rw[b]at y;rw[if_neg (by rw[b];decide)]at a;have p:=a_ a;clear b a;go_wp2_with(first|(go_at_call 35;refine(Dx.calls O (i:Int) x.f1 x.f2 true _ q.o (HG.o.below o.o)).mono ?_;rintro e W2 ⟨rfl,m⟩;have g:=a_ (BA o.o m);have c:=a_ (Az t.o m);have d:=a_ (Az (EL wr _) m);clear m;have d0:=(AO d.o 0).trans rfl;have d1:=(AO d.o 1).trans rfl;have t0:=(AO c.o i).trans z.o;have tf:=DT c.o i)|(go_at_call 36;refine(BP.calls (i:Int) false _ y.o (HG.o.below (EK g.o (Nat.le_refl _)))).mono ?_;rintro e w' ⟨rfl,⟨nd,rfl⟩⟩));have ag:=P.o;have D:wrap64 (j+1)=j+1:=by unfold wrap64;omega
    refine⟨⟨j+1,roots,x.f1,(i:Int)::seen,by omega,by omega,by first|rfl|rw[D],rfl,rfl,by omega,by omega,p,⟨?_⟩,⟨At (EK g.o (Nat.le_refl _)) _⟩⟩,?_⟩
    ·have:=E8 c.o i (.int .i64 1);rw[U.o]at this;exact this
    first|(show l0.length-(j+1).toNat<l0.length-j.toNat;omega)|(rw[D];show l0.length-(j+1).toNat<l0.length-j.toNat;omega)
   have af:decide (depth+1<x.f1)=true:=BJ (by omega);rw[C1 v,Bool.false_and]at a;subst a;clear v;go_wp2_with(go_at_call 35;refine(Dx.calls O (i:Int) x.f1 x.f2 true _ q.o (HG.o.below o.o)).mono ?_;rintro e W2 ⟨rfl,m⟩;have g:=a_ (BA o.o m);have c:=a_ (Az t.o m);have d:=a_ (Az (EL wr _) m);clear m;have d0:=(AO d.o 0).trans rfl;have d1:=(AO d.o 1).trans rfl;have t0:=(AO c.o i).trans z.o;have tf:=DT c.o i);go_ret;exact⟨rfl,g.o⟩
  have n:GS x=false:=by simpa using n
  rw[n]at q;have a:=p.o;rw[n,Bool.false_and]at a;subst a;clear n p;go_wp2_with(go_at_call 35;refine(Dx.calls O x.f0 x.f1 x.f2 false _ q.o (HG.o.below o.o)).mono ?_;rintro e W2 ⟨rfl,m⟩;have g:=a_ (BA o.o m);have c:=a_ (Az t.o m);have d:=a_ (Az (EL wr _) m);clear m;have d0:=(AO d.o 0).trans rfl;have d1:=(AO d.o 1).trans rfl);go_ret;exact⟨rfl,g.o⟩
 have ae:decide (j<(l0.length:Int))=false:=C1 u;have a:=p.o;rw[List.drop_eq_nil_of_le (by omega)]at a;unfold EE at a;have I:=a_ a;clear a p u;by_cases h3:roots=3
 ·subst h3;go_wp2;go_ret;exact⟨by rw[<-I.o];rfl,HB.o⟩
 have au:(roots==3)=false:=beq_eq_false_iff_ne.2 h3;have T:=a_ (C1 h3);clear h3;go_wp2;go_ret;exact⟨by rw[<-I.o,T.o];rfl,HB.o⟩
end Go.Proofs.YtlhlpfnljglhoaaDoor.P
namespace Go.Proofs.YtlhlpfnljglhoaaDoor.P
open Go.RowKit Go.Proofs.YtlhlpfnljglhoaaDoorW.PrintWords Go.Proofs.YtlhlpfnljglhoaaDoorW.Bc
mutual
def Ah.j0:Nat->Bool->Int->Int->List (Ba)->List (AM)->Int->Int->Option (Bool)
 | 0,_,_,_,_,_,_,_=>none
 | k+1,i,e,c,g,d,a,b=>if i=true then(some false)else(if a<0 then(Ah.j1 k true e c g d a b)else(if a>c then(Ah.j1 k true e c g d a b)else(if(d.length:Int)>(wrap64 (40-a))then(Ah.j1 k true e c g d a b)else(if b<0 then(Ah.j1 k true e c g d a b)else(Ah.j1 k (decide (b>6)) e c g d a b)))))
def Ah.j1:Nat->Bool->Int->Int->List (Ba)->List (AM)->Int->Int->Option (Bool)
 | 0,_,_,_,_,_,_,_=>none
 | k+1,i,b,c,d,a,e,g=>if i=true then(some false)else(Ah.l0 k a (a.length:Int) 0 b c d a e g)
def Ah.l0:Nat->List (AM)->Int->Int->Int->Int->List (Ba)->List (AM)->Int->Int->Option (Bool)
 | 0,_,_,_,_,_,_,_,_,_=>none
 | k+1,b,l,a,c,e,g,i,d,j=>if a<l then(if 0≤a then(if a<(b.length:Int)then((Da.f k ((Aa b a).f0) ((Aa b a).f1) ((Aa b a).f2.f0) ((Aa b a).f2.f1) ((Aa b a).f2.f2) ((Aa b a).f2.f3) ((Aa b a).f2.f4)).bind λm=>(if m=true then(if((Aa b a).f0)=c then(Ah.j3 k b l a (((Aa b a).f1) != (wrap64 ((wrap64 (d+a))+1))) c e g i d j ((Aa b a).f0) ((Aa b a).f1) ((Aa b a).f2.f0) ((Aa b a).f2.f1) ((Aa b a).f2.f2) ((Aa b a).f2.f3) ((Aa b a).f2.f4))else(Ah.j3 k b l a true c e g i d j ((Aa b a).f0) ((Aa b a).f1) ((Aa b a).f2.f0) ((Aa b a).f2.f1) ((Aa b a).f2.f2) ((Aa b a).f2.f3) ((Aa b a).f2.f4)))else(Ah.j3 k b l a true c e g i d j ((Aa b a).f0) ((Aa b a).f1) ((Aa b a).f2.f0) ((Aa b a).f2.f1) ((Aa b a).f2.f2) ((Aa b a).f2.f3) ((Aa b a).f2.f4))))else(none))else(none))else(some true)
def Ah.j3:Nat->List (AM)->Int->Int->Bool->Int->Int->List (Ba)->List (AM)->Int->Int->Int->Int->Int->Int->Int->Int->ByteArray->Option (Bool)
 | 0,_,_,_,_,_,_,_,_,_,_,_,_,_,_,_,_,_=>none
 | k+1,l,m,n,u,a,c,d,e,g,b,o,p,i,j,q,r,t=>if u=true then(some false)else(if i=1 then(if j>(wrap64 ((wrap64 (10*a))+b))then(some false)else(Ah.l0 k l m (wrap64 (n+1)) a c d e g b))else(Ah.l0 k l m (wrap64 (n+1)) a c d e g b))
end
def Ah.f(k:Nat)(b:Int)(a:Int)(c:List (Ba))(g:List (AM))(d:Int)(e:Int):Option (Bool):=(Cw.f b).bind λi=>(if i=true then(if a<0 then(Ah.j0 k true b a c g d e)else(if a>40 then(Ah.j0 k true b a c g d e)else((ER.f k c).bind λj=>(Ah.j0 k (!j) b a c g d e))))else(Ah.j0 k true b a c g d e))
theorem Ah.calls(k:Nat)(d:Int)(j:Int)(u:Option Addr)(v:Nat)(m:List (Ba))(Z:Option Addr)(x:Nat)(b:List (AM))(i:Int)(l:Int)(r:Bool)(w:World)(cY:Kd.C Dj w u m.length m)(cW:m.length≤v)(cZ:Kd.C BT w Z b.length b)(cX:b.length≤x)(h:Ah.f k d j m b i l=some r)(hG:B1 w) :
  Calls Tryd.prog 6 #[.agg #[.int .i64 d,.int .i64 j,.slice u m.length v,.slice Z b.length x,.int .i64 i,.int .i64 l]] w λe w'=>e=.returned (.bool r)∧Below w.heap.size w w':=by
 have hh:=Tryd.underlying26;have hj:=Tryd.underlying32;have df:=a_ cY;have dd:=a_ cW;clear cY cW;have dg:=a_ cZ;have fC:=a_ cX;clear cZ cX;have HB:=a_ (Below.refl w.heap.size w);have HG:=a_ hG;clear hG;unfold Ah.f at h;have H:=h;clear h;have de:=a_ H;clear H;go_enter Tryd.func6,Tryd.ntmps6;go_upto_region 1 with(first|((with_reducible refine Cd (N:=1) rfl ?_);refine CE 1 (#[.int .i64 d,.int .i64 j,.slice u m.length v,.slice Z b.length x,.int .i64 i,.int .i64 l]) 26 ?_;intro t hg w3 aO I;have c:=a_ (aO);have fA:=a_ ((by rw[hg];exact(Ab (Ad)):w.heap.size≤t));have fy:=a_ ((by rw[hg];exact(Ab (Ad)):w.heap.size≤t));replace HB:=a_ (BA (Ad) I);clear I aO hg))
 (try simp only[Act.put,List.setIfInBounds_toArray,List.set_cons_zero,List.set_cons_succ]);go_cut [24] (λha wc=>∃(kq:Nat) (aL:Bool),ha=.bool aL∧Ae (Ah.j0 kq aL d j m b i l=some r)∧Ae (kq≤k)∧Ae (wc.heap[t]?=some (.cells #[.int .i64 d,.int .i64 j,(.slice u m.length v),(.slice Z b.length x),.int .i64 i,.int .i64 l] 26 (0,0)))∧Ae (Below w.heap.size w wc))
 case first =>
  have H:=de.o;clear de;replace H:=BU H;obtain⟨fv,ft,H⟩:=H;try dsimp only at H
  have A4:=a_ ft;clear ft;by_cases c5:fv=true
  ·subst c5;have H1:(if j<0 then(Ah.j0 k true d j m b i l)else(if j>40 then(Ah.j0 k true d j m b i l)else((ER.f k m).bind λcz=>(Ah.j0 k (!cz) d j m b i l))))=some r:=by rw[if_pos rfl]at H;exact H
   clear H;have H:=H1;clear H1;by_cases c6:j<0
   ·rw[if_pos c6]at H;have B:decide (j<0)=true:=BJ c6;clear c6;(first|rw[B]|(simp only[Cp,Cv];rw[B])|skip);have A:=a_ H;clear H;obtain⟨cg,cj,ck,cl,cm,cn,bX,bY,bZ,b6,b7,b8⟩:=Cs c.o;go_wp2_with(first|((with_reducible refine BN (f:=17) rfl ?_);refine BR 7 Tryd.func17 #[.int .i64 d] ?_;(with_reducible refine(Cw.calls d true _ A4.o).mono ?_);rintro e w' ⟨rfl,⟨nd,rfl⟩⟩;refine⟨_,rfl,?_⟩));go_meet
    exact⟨_,(true),(Cr),A,⟨by first|omega|exact Nat.le_refl _⟩,⟨Bp c.o⟩,⟨Ad⟩⟩
   rw[if_neg c6]at H;have B:decide (j<0)=false:=C1 c6;clear c6;(first|rw[B]|(simp only[Cp,Cv];rw[B])|skip);by_cases c8:j>40
   ·rw[if_pos c8]at H;have aN:decide (40<j)=true:=BJ c8;clear c8;have A:=a_ H;clear H;obtain⟨cp,cq,cr,ct,cu,cv,b9,b_,ca,cb,cd,cf⟩:=Cs c.o;go_wp2_with(first|((with_reducible refine BN (f:=17) rfl ?_);refine BR 7 Tryd.func17 #[.int .i64 d] ?_;(with_reducible refine(Cw.calls d true _ A4.o).mono ?_);rintro e w' ⟨rfl,⟨nd,rfl⟩⟩;refine⟨_,rfl,?_⟩));go_meet
    exact⟨_,(true),(Cr),A,⟨by first|omega|exact Nat.le_refl _⟩,⟨Bp c.o⟩,⟨Ad⟩⟩
   rw[if_neg c8]at H;have aN:decide (40<j)=false:=C1 c8;clear c8;replace H:=BU H;obtain⟨cz,da,H⟩:=H;try dsimp only at H
   have fx:=a_ da;clear da;have A:=a_ H;clear H;obtain⟨aq,ar,au,av,aw,ax,aa,ab,ae,af,ag,ah⟩:=Cs c.o;go_wp2_with(first|((with_reducible refine BN (f:=17) rfl ?_);refine BR 7 Tryd.func17 #[.int .i64 d] ?_;(with_reducible refine(Cw.calls d true _ A4.o).mono ?_);rintro e w' ⟨rfl,⟨nd,rfl⟩⟩;refine⟨_,rfl,?_⟩)|(go_at_call 18;(with_reducible refine(ER.calls k _ _ m cz _ ?q' ?z' fx.o ?y').mono ?_);(case q'=>repeat(first|exact(Kd.Ct df.o (Ad))|(with_reducible refine Kd.C_alloc ?_ _)|(with_reducible refine Kd.Cz ?_ _)|(with_reducible refine Kd.C_drew ?_)));(case z'=>exact dd.o);(case y'=>exact B1.below HG.o (Ad));rintro e hk ⟨rfl,I⟩;replace HB:=a_ (BA (Ad) I);replace c:=a_ (C3 c.o I);(try clear I)));go_meet
   exact⟨_,(!cz),(Cr),A,⟨by first|omega|exact Nat.le_refl _⟩,⟨Bp c.o⟩,⟨Ad⟩⟩
  replace c5:=Bool.eq_false_iff.mpr c5;subst c5;have H1:(Ah.j0 k true d j m b i l)=some r:=by rw[if_neg (show¬ (false=true) by decide)]at H;exact H
  clear H;have H:=H1;clear H1;have A:=a_ H;clear H;obtain⟨ay,az,aA,aB,aC,aD,ai,aj,ak,al,an,ao⟩:=Cs c.o;go_wp2_with(first|((with_reducible refine BN (f:=17) rfl ?_);refine BR 7 Tryd.func17 #[.int .i64 d] ?_;(with_reducible refine(Cw.calls d false _ A4.o).mono ?_);rintro e w' ⟨rfl,⟨nd,rfl⟩⟩;refine⟨_,rfl,?_⟩));go_meet
  exact⟨_,(true),(Cr),A,⟨by first|omega|exact Nat.le_refl _⟩,⟨Bp c.o⟩,⟨Ad⟩⟩
 clear de;try clear c1
 try clear c5
 try clear c6
 try clear B
 try clear c8
 try clear aN
 try clear aq ar au av aw ax aa ab ae af ag ah
 try clear ay az aA aB aC aD ai aj ak al an ao
 try clear cg cj ck cl cm cn bX bY bZ b6 b7 b8
 try clear cp cq cr ct cu cv b9 b_ ca cb cd cf
 obtain⟨kq,aL,rfl,HA,G,c,HB⟩:=hcut;cases kq with
 | zero=>exact absurd HA.o (by simp[Ah.j0])
 | succ cC =>
  have H:=HA.o
  clear HA
  simp only[Ah.j0]at H
  by_cases bT:aL=true
  ·subst bT
   have H1:(some false)=some r:=by rw[if_pos rfl]at H;exact H
   clear H
   have H:=H1
   clear H1
   obtain rfl:=C5 H
   go_wp2
   go_ret
   exact⟨C_,Ad⟩
  ·replace bT:=Bool.eq_false_iff.mpr bT
   subst bT
   have H1:(if i<0 then(Ah.j1 cC true d j m b i l)else(if i>j then(Ah.j1 cC true d j m b i l)else(if(b.length:Int)>(wrap64 (40-i))then(Ah.j1 cC true d j m b i l)else(if l<0 then(Ah.j1 cC true d j m b i l)else(Ah.j1 cC (decide (l>6)) d j m b i l)))))=some r:=by rw[if_neg (show¬ (false=true) by decide)]at H;exact H
   clear H
   have H:=H1
   clear H1
   have cD:=a_ H
   clear H
   go_upto_region 3 with(fail)
   go_cut [53] (λhc wc=>∃(kq:Nat) (J:Bool),hc=.bool J∧Ae (Ah.j1 kq J d j m b i l=some r)∧Ae (kq≤cC)∧Ae (wc.heap[t]?=some (.cells #[.int .i64 d,.int .i64 j,(.slice u m.length v),(.slice Z b.length x),.int .i64 i,.int .i64 l] 26 (0,0)))∧Ae (Below w.heap.size w wc))
   case first =>
    have H:=cD.o
    clear cD
    by_cases aE:i<0
    ·rw[if_pos aE]at H
     have y:decide (i<0)=true:=BJ aE
     clear aE
     (first|rw[y]|(simp only[Cp,Cv];rw[y])|skip)
     have A:=a_ H
     clear H
     obtain⟨bl,bm,bn,bo,bp,bq,aQ,aR,aS,aT,aU,aV⟩:=Cs (W:=wc) c.o
     go_wp2
     go_meet
     case rel=>exact⟨_,(true),(Cr),A,⟨by have:=G.o;first|omega|exact Nat.le_refl _⟩,⟨Bp c.o⟩,⟨Ad⟩⟩
    ·rw[if_neg aE]at H
     have y:decide (i<0)=false:=C1 aE
     clear aE
     (first|rw[y]|(simp only[Cp,Cv];rw[y])|skip)
     by_cases aF:i>j
     ·rw[if_pos aF]at H
      have aG:decide (j<i)=true:=BJ aF
      clear aF
      have A:=a_ H
      clear H
      obtain⟨br,bu,bw,bx,bz,bA,aW,aX,aY,aZ,a0,a1⟩:=Cs (W:=wc) c.o
      go_wp2
      go_meet
      case rel=>exact⟨_,(true),(Cr),A,⟨by have:=G.o;first|omega|exact Nat.le_refl _⟩,⟨Bp c.o⟩,⟨Ad⟩⟩
     ·rw[if_neg aF]at H
      have aG:decide (j<i)=false:=C1 aF
      clear aF
      by_cases aH:(b.length:Int)>(wrap64 (40-i))
      ·rw[if_pos aH]at H
       have aI:decide ((wrap64 (40-i))<(b.length:Int))=true:=BJ aH
       clear aH
       have A:=a_ H
       clear H
       obtain⟨bB,bC,bD,bE,bF,bG,a2,a3,a4,a5,a6,a7⟩:=Cs (W:=wc) c.o
       go_wp2
       go_meet
       case rel=>exact⟨_,(true),(Cr),A,⟨by have:=G.o;first|omega|exact Nat.le_refl _⟩,⟨Bp c.o⟩,⟨Ad⟩⟩
      ·rw[if_neg aH]at H
       have aI:decide ((wrap64 (40-i))<(b.length:Int))=false:=C1 aH
       clear aH
       by_cases aJ:l<0
       ·rw[if_pos aJ]at H
        have aK:decide (l<0)=true:=BJ aJ
        clear aJ
        have A:=a_ H
        clear H
        obtain⟨bH,bI,bJ,bK,bL,bM,a8,a9,ba,bb,bc,bd⟩:=Cs (W:=wc) c.o
        go_wp2
        go_meet
        case rel=>exact⟨_,(true),(Cr),A,⟨by have:=G.o;first|omega|exact Nat.le_refl _⟩,⟨Bp c.o⟩,⟨Ad⟩⟩
       ·rw[if_neg aJ]at H
        have aK:decide (l<0)=false:=C1 aJ
        clear aJ
        have A:=a_ H
        clear H
        obtain⟨bN,bO,bP,bQ,bR,bS,be,bf,bg,bh,bj,bk⟩:=Cs (W:=wc) c.o
        go_wp2
        go_meet
        case rel=>exact⟨_,(decide (l>6)),(Cr),A,⟨by have:=G.o;first|omega|exact Nat.le_refl _⟩,⟨Bp c.o⟩,⟨Ad⟩⟩
   case rest =>
    clear cD
    try clear c5
    try clear c6
    try clear B
    try clear c8
    try clear aN
    try clear bT
    try clear aE
    try clear y
    try clear aF
    try clear aG
    try clear aH
    try clear aI
    try clear aJ
    try clear aK
    try clear aq ar au av aw ax aa ab ae af ag ah
    try clear ay az aA aB aC aD ai aj ak al an ao
    try clear bl bm bn bo bp bq aQ aR aS aT aU aV
    try clear br bu bw bx bz bA aW aX aY aZ a0 a1
    try clear bB bC bD bE bF bG a2 a3 a4 a5 a6 a7
    try clear bH bI bJ bK bL bM a8 a9 ba bb bc bd
    try clear bN bO bP bQ bR bS be bf bg bh bj bk
    try clear cg cj ck cl cm cn bX bY bZ b6 b7 b8
    try clear cp cq cr ct cu cv b9 b_ ca cb cd cf
    obtain⟨kq,J,rfl,HA,L,c,HB⟩:=hcut
    cases kq with
    | zero=>exact absurd HA.o (by simp[Ah.j1])
    | succ c0 =>
     have H:=HA.o
     clear HA
     simp only[Ah.j1]at H
     by_cases cA:J=true
     ·subst cA
      have H1:(some false)=some r:=by rw[if_pos rfl]at H;exact H
      clear H
      have H:=H1
      clear H1
      obtain rfl:=C5 H
      go_wp2
      go_ret
      exact⟨C_,Ad⟩
     ·replace cA:=Bool.eq_false_iff.mpr cA
      subst cA
      have H1:(Ah.l0 c0 b (b.length:Int) 0 d j m b i l)=some r:=by rw[if_neg (show¬ (false=true) by decide)]at H;exact H
      clear H
      have H:=H1
      clear H1
      have A:=a_ H
      clear H
      obtain⟨cL,cM,cN,cO,cP,cQ,cF,cG,cH,cI,cJ,cK⟩:=Cs (W:=wc) c.o
      go_wp2
      go_loopg [57] c0 (λkq hd w'=>∃(a:Int),hd=.int .i64 a∧Ae (Ah.l0 kq b (b.length:Int) a d j m b i l=some r)∧Ae (kq≤c0)∧Ae (w'.heap[t]?=some (.cells #[.int .i64 d,.int .i64 j,(.slice u m.length v),(.slice Z b.length x),.int .i64 i,.int .i64 l] 26 (0,0)))∧Ae (Below w.heap.size w w'))
      case atStart=>exact⟨(0),(Cr),A,⟨Nat.le_refl _⟩,⟨Bp c.o⟩,⟨Ad⟩⟩
      case round =>
       clear A
       try clear c5
       try clear c6
       try clear B
       try clear c8
       try clear aN
       try clear bT
       try clear aE
       try clear y
       try clear aF
       try clear aG
       try clear aH
       try clear aI
       try clear aJ
       try clear aK
       try clear cA
       try clear aq ar au av aw ax aa ab ae af ag ah
       try clear ay az aA aB aC aD ai aj ak al an ao
       try clear bl bm bn bo bp bq aQ aR aS aT aU aV
       try clear br bu bw bx bz bA aW aX aY aZ a0 a1
       try clear bB bC bD bE bF bG a2 a3 a4 a5 a6 a7
       try clear bH bI bJ bK bL bM a8 a9 ba bb bc bd
       try clear bN bO bP bQ bR bS be bf bg bh bj bk
       try clear cL cM cN cO cP cQ cF cG cH cI cJ cK
       try clear cg cj ck cl cm cn bX bY bZ b6 b7 b8
       try clear cp cq cr ct cu cv b9 b_ ca cb cd cf
       obtain⟨a,rfl,HA,aP,c,HB⟩:=hrel
       cases gk with
       | zero=>exact absurd HA.o (by simp[Ah.l0])
       | succ k3 =>
        have H:=HA.o
        clear HA
        simp only[Ah.l0]at H
        by_cases bU:a<(b.length:Int)
        ·rw[if_pos bU]at H
         have cR:decide (a<(b.length:Int))=true:=BJ bU
         clear bU
         by_cases cS:0≤a
         ·rw[if_pos cS]at H
          have fl:decide (0≤a)=true:=BJ cS
          clear cS
          by_cases cT:a<(b.length:Int)
          ·rw[if_pos cT]at H
           have fm:decide (a<(b.length:Int))=true:=BJ cT
           clear cT
           have cE:=a_ H
           clear H
           have cx:0≤(a:Int):=Bu
           have cy:a<(b.length:Int):=Bu
           obtain⟨D,fu,M,O,P,T,U,X,Y⟩:=CD dg.o a cx cy
           cases fu
           replace M:=(Au HB.o M:)
           replace O:=(Au HB.o O:)
           replace P:=(Au HB.o P:)
           replace T:=(Au HB.o T:)
           replace U:=(Au HB.o U:)
           replace X:=(Au HB.o X:)
           replace Y:=(Au HB.o Y:)
           replace cx:=eq_true cx
           replace cy:=eq_true cy
           go_upto_region 8 with(first|((with_reducible refine Cd (N:=4) rfl ?_);refine CE 4 (#[.int .i64 0,.int .i64 0,.int .i64 0,.int .i64 0,.int .i64 0,.int .i64 0,.string (⟨#[]⟩:ByteArray)]) 32 ?_;intro z hg hn aO I;have p:=a_ (aO);have fB:=a_ ((by rw[hg];exact(Ab (Ad)):w.heap.size≤z));have fz:=a_ ((by rw[hg];exact(Ab (Ad)):w.heap.size≤z));have n:=a_ ((by rw[hg];exact Nat.ne_of_lt (AU (g:=t) (o:=.cells #[.int .i64 d,.int .i64 j,.slice u m.length v,.slice (some D) b.length x,.int .i64 i,.int .i64 l] 26 (0,0)) (Bp c.o)):t≠z));have q:=a_ ((by rw[hg];exact Nat.ne_of_gt (AU (g:=t) (o:=.cells #[.int .i64 d,.int .i64 j,.slice u m.length v,.slice (some D) b.length x,.int .i64 i,.int .i64 l] 26 (0,0)) (Bp c.o)):z≠t));replace c:=a_ (C3 c.o I);replace HB:=a_ (BA (Ad) I);clear I aO hg;have gX:=q.o;have g4:=n.o;obtain⟨ep,er,et,eu,ev,ew,ey,dh,di,dj,dk,dm,dn,dp⟩:=Dz p.o))
           (try simp only[Act.put,List.setIfInBounds_toArray,List.set_cons_zero,List.set_cons_succ])
           go_cut [81] (λhf wc=>∃(kq:Nat) (K:Bool),hf=.bool K∧Ae (Ah.j3 kq b (b.length:Int) a K d j m b i l ((Aa b a).f0) ((Aa b a).f1) ((Aa b a).f2.f0) ((Aa b a).f2.f1) ((Aa b a).f2.f2) ((Aa b a).f2.f3) ((Aa b a).f2.f4)=some r)∧Ae (kq≤k3)∧Ae (wc.heap[t]?=some (.cells #[.int .i64 d,.int .i64 j,(.slice u m.length v),(.slice (some D) b.length x),.int .i64 i,.int .i64 l] 26 (0,0)))∧Ae (wc.heap[z]?=some (.cells #[.int .i64 ((Aa b a).f0),.int .i64 ((Aa b a).f1),.int .i64 ((Aa b a).f2.f0),.int .i64 ((Aa b a).f2.f1),.int .i64 ((Aa b a).f2.f2),.int .i64 ((Aa b a).f2.f3),.string ((Aa b a).f2.f4)] 32 (0,0)))∧Ae (Below w.heap.size w wc))
           case first =>
            have H:=cE.o
            clear cE
            replace H:=BU H
            obtain⟨fw,db,H⟩:=H
            try dsimp only at H
            have dc:=a_ db
            clear db
            by_cases cU:fw=true
            ·subst cU
             have H1:(if((Aa b a).f0)=d then(Ah.j3 k3 b (b.length:Int) a (((Aa b a).f1) != (wrap64 ((wrap64 (i+a))+1))) d j m b i l ((Aa b a).f0) ((Aa b a).f1) ((Aa b a).f2.f0) ((Aa b a).f2.f1) ((Aa b a).f2.f2) ((Aa b a).f2.f3) ((Aa b a).f2.f4))else(Ah.j3 k3 b (b.length:Int) a true d j m b i l ((Aa b a).f0) ((Aa b a).f1) ((Aa b a).f2.f0) ((Aa b a).f2.f1) ((Aa b a).f2.f2) ((Aa b a).f2.f3) ((Aa b a).f2.f4)))=some r:=by rw[if_pos rfl]at H;exact H
             clear H
             have H:=H1
             clear H1
             by_cases aM:((Aa b a).f0)=d
             ·rw[if_pos aM]at H
              have E:(((Aa b a).f0)==d)=true:=beq_iff_eq.mpr aM
              have cV:(((Aa b a).f0) != d)=false:=Ff aM
              clear aM
              (first|rw[E]|(simp only[Cp,Cv];rw[E])|skip)
              have A:=a_ H
              clear H
              have gY:=q.o
              have g5:=n.o
              obtain⟨ez,eA,eB,eC,eD,eE,eF,dq,dr,du,dv,dw,dx,dy⟩:=Dz p.o
              go_wp2_with(first|((with_reducible refine BN (f:=19) rfl ?_);refine BR 63 Tryd.func19 #[.agg #[.int .i64 ((Aa b a).f0),.int .i64 ((Aa b a).f1),.int .i64 ((Aa b a).f2.f0),.int .i64 ((Aa b a).f2.f1),.int .i64 ((Aa b a).f2.f2),.int .i64 ((Aa b a).f2.f3),.string ((Aa b a).f2.f4)]] ?_;(with_reducible refine(Da.calls k3 ((Aa b a).f0) ((Aa b a).f1) ((Aa b a).f2.f0) ((Aa b a).f2.f1) ((Aa b a).f2.f2) ((Aa b a).f2.f3) ((Aa b a).f2.f4) true _ dc.o ?q').mono ?_);(case q'=>exact B1.below HG.o (Ad));rintro e ho ⟨rfl,I⟩;refine⟨_,rfl,?_⟩;replace c:=a_ (Az (g:=t) (o:=.cells #[.int .i64 d,.int .i64 j,.slice u m.length v,.slice (some D) b.length x,.int .i64 i,.int .i64 l] 26 (0,0)) (Dv n.o c.o) I);replace p:=a_ (Az (g:=z) (o:=.cells #[.int .i64 ((Aa b a).f0),.int .i64 ((Aa b a).f1),.int .i64 ((Aa b a).f2.f0),.int .i64 ((Aa b a).f2.f1),.int .i64 ((Aa b a).f2.f2),.int .i64 ((Aa b a).f2.f3),.string ((Aa b a).f2.f4)] 32 (0,0)) (JC p.o) I);replace HB:=a_ (BA (Ad) I);(try clear I);obtain⟨eG,eH,eI,eJ,eK,eL,eM,dz,dA,dB,dC,dD,dE,dF⟩:=Dz p.o;obtain⟨eN,eO,eP,eQ,eR,eS,dG,dH,dI,dJ,dK,dL⟩:=Cs c.o))
              go_meet
              case rel=>exact⟨_,((((Aa b a).f1) != (wrap64 ((wrap64 (i+a))+1)))),(Cr),A,⟨by have:=G.o;have:=L.o;have:=aP.o;first|omega|exact Nat.le_refl _⟩,⟨Bp c.o⟩,⟨Bp p.o⟩,⟨Ad⟩⟩
             ·rw[if_neg aM]at H
              have E:(((Aa b a).f0)==d)=false:=Dq aM
              have cV:(((Aa b a).f0) != d)=true:=bne_iff_ne.mpr aM
              (first|rw[E]|(simp only[Cp,Cv];rw[E])|skip)
              have A:=a_ H
              clear H
              have gZ:=q.o
              have g6:=n.o
              obtain⟨eT,eU,eV,eW,eX,eY,eZ,dM,dN,dO,dP,dQ,dR,dS⟩:=Dz p.o
              go_wp2_with(first|((with_reducible refine BN (f:=19) rfl ?_);refine BR 63 Tryd.func19 #[.agg #[.int .i64 ((Aa b a).f0),.int .i64 ((Aa b a).f1),.int .i64 ((Aa b a).f2.f0),.int .i64 ((Aa b a).f2.f1),.int .i64 ((Aa b a).f2.f2),.int .i64 ((Aa b a).f2.f3),.string ((Aa b a).f2.f4)]] ?_;(with_reducible refine(Da.calls k3 ((Aa b a).f0) ((Aa b a).f1) ((Aa b a).f2.f0) ((Aa b a).f2.f1) ((Aa b a).f2.f2) ((Aa b a).f2.f3) ((Aa b a).f2.f4) true _ dc.o ?q').mono ?_);(case q'=>exact B1.below HG.o (Ad));rintro e hp ⟨rfl,I⟩;refine⟨_,rfl,?_⟩;replace c:=a_ (Az (g:=t) (o:=.cells #[.int .i64 d,.int .i64 j,.slice u m.length v,.slice (some D) b.length x,.int .i64 i,.int .i64 l] 26 (0,0)) (Dv n.o c.o) I);replace p:=a_ (Az (g:=z) (o:=.cells #[.int .i64 ((Aa b a).f0),.int .i64 ((Aa b a).f1),.int .i64 ((Aa b a).f2.f0),.int .i64 ((Aa b a).f2.f1),.int .i64 ((Aa b a).f2.f2),.int .i64 ((Aa b a).f2.f3),.string ((Aa b a).f2.f4)] 32 (0,0)) (JC p.o) I);replace HB:=a_ (BA (Ad) I);(try clear I);obtain⟨e0,e1,e2,e3,e4,e5,e6,dT,dU,dV,dW,dX,dY,dZ⟩:=Dz p.o;obtain⟨e7,e8,e9,e_,fa,fb,d_,ea,ec,ed,ee,ef⟩:=Cs c.o))
              go_meet
              case rel=>exact⟨_,(true),(Cr),A,⟨by have:=G.o;have:=L.o;have:=aP.o;first|omega|exact Nat.le_refl _⟩,⟨Bp c.o⟩,⟨Bp p.o⟩,⟨Ad⟩⟩
            ·replace cU:=Bool.eq_false_iff.mpr cU
             subst cU
             have H1:(Ah.j3 k3 b (b.length:Int) a true d j m b i l ((Aa b a).f0) ((Aa b a).f1) ((Aa b a).f2.f0) ((Aa b a).f2.f1) ((Aa b a).f2.f2) ((Aa b a).f2.f3) ((Aa b a).f2.f4))=some r:=by rw[if_neg (show¬ (false=true) by decide)]at H;exact H
             clear H
             have H:=H1
             clear H1
             have A:=a_ H
             clear H
             have g0:=q.o
             have g7:=n.o
             obtain⟨fc,fe,fg,fh,fi,fj,fk,eg,eh,ei,ej,ek,en,eo⟩:=Dz p.o
             go_wp2_with(first|((with_reducible refine BN (f:=19) rfl ?_);refine BR 63 Tryd.func19 #[.agg #[.int .i64 ((Aa b a).f0),.int .i64 ((Aa b a).f1),.int .i64 ((Aa b a).f2.f0),.int .i64 ((Aa b a).f2.f1),.int .i64 ((Aa b a).f2.f2),.int .i64 ((Aa b a).f2.f3),.string ((Aa b a).f2.f4)]] ?_;(with_reducible refine(Da.calls k3 ((Aa b a).f0) ((Aa b a).f1) ((Aa b a).f2.f0) ((Aa b a).f2.f1) ((Aa b a).f2.f2) ((Aa b a).f2.f3) ((Aa b a).f2.f4) false _ dc.o ?q').mono ?_);(case q'=>exact B1.below HG.o (Ad));rintro e hq ⟨rfl,I⟩;refine⟨_,rfl,?_⟩;replace c:=a_ (Az (g:=t) (o:=.cells #[.int .i64 d,.int .i64 j,.slice u m.length v,.slice (some D) b.length x,.int .i64 i,.int .i64 l] 26 (0,0)) (Dv n.o c.o) I);replace p:=a_ (Az (g:=z) (o:=.cells #[.int .i64 ((Aa b a).f0),.int .i64 ((Aa b a).f1),.int .i64 ((Aa b a).f2.f0),.int .i64 ((Aa b a).f2.f1),.int .i64 ((Aa b a).f2.f2),.int .i64 ((Aa b a).f2.f3),.string ((Aa b a).f2.f4)] 32 (0,0)) (JC p.o) I);replace HB:=a_ (BA (Ad) I);(try clear I)))
             go_meet
             case rel=>exact⟨_,(true),(Cr),A,⟨by have:=G.o;have:=L.o;have:=aP.o;first|omega|exact Nat.le_refl _⟩,⟨Bp c.o⟩,⟨Bp p.o⟩,⟨Ad⟩⟩
           case rest =>
            clear cE
            try clear c5
            try clear c6
            try clear B
            try clear c8
            try clear aN
            try clear bT
            try clear aE
            try clear y
            try clear aF
            try clear aG
            try clear aH
            try clear aI
            try clear aJ
            try clear aK
            try clear cA
            try clear bU
            try clear cR
            try clear cS
            try clear fl
            try clear cT
            try clear fm
            try clear cU
            try clear aM
            try clear E
            try clear cV
            try clear M
            try clear O
            try clear P
            try clear T
            try clear U
            try clear X
            try clear Y
            try clear cx
            try clear cy
            try clear aq ar au av aw ax aa ab ae af ag ah
            try clear ay az aA aB aC aD ai aj ak al an ao
            try clear bl bm bn bo bp bq aQ aR aS aT aU aV
            try clear br bu bw bx bz bA aW aX aY aZ a0 a1
            try clear bB bC bD bE bF bG a2 a3 a4 a5 a6 a7
            try clear bH bI bJ bK bL bM a8 a9 ba bb bc bd
            try clear bN bO bP bQ bR bS be bf bg bh bj bk
            try clear cL cM cN cO cP cQ cF cG cH cI cJ cK
            try clear ep er et eu ev ew ey dh di dj dk dm dn dp
            try clear ez eA eB eC eD eE eF dq dr du dv dw dx dy
            try clear eG eH eI eJ eK eL eM dz dA dB dC dD dE dF
            try clear eN eO eP eQ eR eS dG dH dI dJ dK dL
            try clear eT eU eV eW eX eY eZ dM dN dO dP dQ dR dS
            try clear e0 e1 e2 e3 e4 e5 e6 dT dU dV dW dX dY dZ
            try clear e7 e8 e9 e_ fa fb d_ ea ec ed ee ef
            try clear fc fe fg fh fi fj fk eg eh ei ej ek en eo
            try clear cg cj ck cl cm cn bX bY bZ b6 b7 b8
            try clear cp cq cr ct cu cv b9 b_ ca cb cd cf
            obtain⟨kq,K,rfl,HA,bW,c,p,HB⟩:=hcut
            cases kq with
            | zero=>exact absurd HA.o (by simp[Ah.j3])
            | succ cw =>
             have H:=HA.o
             clear HA
             simp only[Ah.j3]at H
             by_cases c_:K=true
             ·subst c_
              have H1:(some false)=some r:=by rw[if_pos rfl]at H;exact H
              clear H
              have H:=H1
              clear H1
              obtain rfl:=C5 H
              go_wp2
              go_ret
              exact⟨C_,Ad⟩
             ·replace c_:=Bool.eq_false_iff.mpr c_
              subst c_
              have H1:(if((Aa b a).f2.f0)=1 then(if((Aa b a).f2.f1)>(wrap64 ((wrap64 (10*d))+l))then(some false)else(Ah.l0 cw b (b.length:Int) (wrap64 (a+1)) d j m b i l))else(Ah.l0 cw b (b.length:Int) (wrap64 (a+1)) d j m b i l))=some r:=by rw[if_neg (show¬ (false=true) by decide)]at H;exact H
              clear H
              have H:=H1
              clear H1
              by_cases bV:((Aa b a).f2.f0)=1
              ·rw[if_pos bV]at H
               have fo:(((Aa b a).f2.f0)==1)=true:=beq_iff_eq.mpr bV
               have fp:(((Aa b a).f2.f0) != 1)=false:=Ff bV
               clear bV
               by_cases cB:((Aa b a).f2.f1)>(wrap64 ((wrap64 (10*d))+l))
               ·rw[if_pos cB]at H
                have fq:decide ((wrap64 ((wrap64 (10*d))+l))<((Aa b a).f2.f1))=true:=BJ cB
                clear cB
                obtain rfl:=C5 H
                have g1:=q.o
                have g8:=n.o
                obtain⟨gn,gp,gq,gr,gu,gv,gw,fD,fE,fF,fG,fH,fI,fJ⟩:=Dz (W:=wc) p.o
                obtain⟨gx,gy,gz,gA,gB,gC,fK,fL,fM,fN,fO,fP⟩:=Cs (W:=wc) c.o
                go_wp2
                go_ret
                exact⟨C_,Ad⟩
               ·rw[if_neg cB]at H
                have fq:decide ((wrap64 ((wrap64 (10*d))+l))<((Aa b a).f2.f1))=false:=C1 cB
                clear cB
                have A:=a_ H
                clear H
                have g2:=q.o
                have g9:=n.o
                obtain⟨gD,gE,gF,gG,gH,gI,gJ,fQ,fR,fS,fT,fU,fV,fW⟩:=Dz (W:=wc) p.o
                obtain⟨gK,gL,gM,gN,gO,gP,fX,fY,fZ,f_,ga,gb⟩:=Cs (W:=wc) c.o
                go_wp2
                go_roundg cw
                case measure=>have:=G.o;have:=L.o;have:=aP.o;have:=bW.o;omega
                case rel=>exact⟨(wrap64 (a+1)),(Cr),A,⟨by have:=G.o;have:=L.o;have:=aP.o;have:=bW.o;omega⟩,⟨Bp c.o⟩,⟨Ad⟩⟩
              ·rw[if_neg bV]at H
               have fo:(((Aa b a).f2.f0)==1)=false:=Dq bV
               have fp:(((Aa b a).f2.f0) != 1)=true:=bne_iff_ne.mpr bV
               have A:=a_ H
               clear H
               have g3:=q.o
               have g_:=n.o
               obtain⟨gQ,gR,gS,gT,gU,gV,gW,gf,gg,gh,gi,gj,gl,gm⟩:=Dz (W:=wc) p.o
               go_wp2
               go_roundg cw
               case measure=>have:=G.o;have:=L.o;have:=aP.o;have:=bW.o;omega
               case rel=>exact⟨(wrap64 (a+1)),(Cr),A,⟨by have:=G.o;have:=L.o;have:=aP.o;have:=bW.o;omega⟩,⟨Bp c.o⟩,⟨Ad⟩⟩
          ·rw[if_neg cT]at H
           exact absurd H (by simp)
         ·rw[if_neg cS]at H
          exact absurd H (by simp)
        ·rw[if_neg bU]at H
         have cR:decide (a<(b.length:Int))=false:=C1 bU
         clear bU
         obtain rfl:=C5 H
         go_wp2
         go_ret
         exact⟨C_,Ad⟩
mutual
def Ak.l0:Nat->List (Ba)->Int->Int->Option (Bool)
 | 0,_,_,_=>none
 | k+1,b,d,a=>if a<(b.length:Int)then(if 0≤a then((DZ.f k ((Ag b a).f0) ((Ag b a).f1) ((Ag b a).f2)).bind λc=>(if c=true then(if a>0 then(if 0≤(wrap64 (a-1))then(if(wrap64 (a-1))<(b.length:Int)then(Ak.j1 k b d a (decide (((Ag b a).f1)>(wrap64 (((Ag b (wrap64 (a-1))).f1)+1)))))else(none))else(none))else(Ak.j1 k b d a false))else(Ak.j1 k b d a true)))else(none))else(if d=3 then(if 0<(b.length:Int)then(some (((Ag b 0).f0)==1))else(none))else(some false))
def Ak.j1:Nat->List (Ba)->Int->Int->Bool->Option (Bool)
 | 0,_,_,_,_=>none
 | k+1,c,d,a,e=>if e=true then(some false)else(if 0≤a then(if a<(c.length:Int)then((Ck.f ((Ag c a).f0)).bind λb=>(if b=true then(if((Ag c a).f0)=(wrap64 (d+1))then(Ak.j2 k c (wrap64 (d+1)) a)else(some false))else(Ak.j2 k c d a)))else(none))else(none))
def Ak.j2:Nat->List (Ba)->Int->Int->Option (Bool)
 | 0,_,_,_=>none
 | k+1,a,b,c=>Ak.l1 k a b c 0
def Ak.l1:Nat->List (Ba)->Int->Int->Int->Option (Bool)
 | 0,_,_,_,_=>none
 | k+1,a,d,b,c=>if c<b then(if 0≤c then(if c<(a.length:Int)then(if 0≤b then(if b<(a.length:Int)then(if((Ag a c).f0)=((Ag a b).f0)then(some false)else(Ak.l1 k a d b (wrap64 (c+1))))else(none))else(none))else(none))else(none))else(Ak.l0 k a d (wrap64 (b+1)))
end
def Ak.f(k:Nat)(l0:List (Ba)):Option (Bool):=Ak.l0 k l0 0 0
def Ak.T5:Bool×List (List Nat×List Nat):=(true,[([],[]),([],[]),([0,1],[0,1]),([2],[2]),([3],[3]),([4],[4]),([5,4],[5]),([6],[6]),([7,6],[6,7]),([8,6,6],[6,8]),([9],[9]),([9],[9]),([10,11,9],[9,10,11]),([12,9],[9,12]),([13,9],[9,13]),([9],[9]),([9],[9]),([16,9],[9,16]),([15,17,9],[9,15,17]),([18,9],[9,18]),([19,9],[9,19]),([20,9],[9,20]),([14,21,9],[9,14,21]),([9,22,6],[6,9,22]),([6,23],[6,23])])
def Ak.B5:List Nat:=[0,0,3,7,15,31,63,127,255,511,1023,1023,4095,8191,16383,1023,1023,66559,230399,492543,1016831,2065407,4194303,8388607,16777215]
theorem Ak.Nf:ED .any (opsOf Tryd.f21 5)=Ak.T5:=by kernel_rfl
theorem Ak.J0:DU Ak.T5.2 Ak.B5=true:=by kernel_rfl
def Ak.Ol:Bool×List (List Nat×List Nat):=(true,[([],[]),([],[]),([0,1],[0,1]),([2],[2]),([3],[3]),([],[]),([],[]),([5,6],[5,6]),([7],[7]),([8],[8]),([4,9],[4,9])])
def Ak.PF:List Nat:=[0,0,3,7,15,0,0,96,224,480,1023]
theorem Ak.Jd:ED .any (opsOf Tryd.f21 14)=Ak.Ol:=by kernel_rfl
theorem Ak.Hs:DU Ak.Ol.2 Ak.PF=true:=by kernel_rfl
end Go.Proofs.YtlhlpfnljglhoaaDoor.P
namespace Go.Proofs.YtlhlpfnljglhoaaDoor.P
open Go.RowKit Go.Proofs.YtlhlpfnljglhoaaDoorW.PrintWords Go.Proofs.YtlhlpfnljglhoaaDoorW.Bc
theorem Ak.calls(k:Nat)(A0:Option Addr)(c0:Nat)(l0:List (Ba))(r:Bool)(w:World)(bE:Kd.C Dj w A0 l0.length l0)(bD:l0.length≤c0)(h:Ak.f k l0=some r) :
  Calls Tryd.prog 21 #[.slice A0 l0.length c0] w λe w'=>e=.returned (.bool r)∧Below w.heap.size w w':=by
 have bT:=Tryd.underlying68;have ag:=a_ bE;have bU:=a_ bD;clear bE bD;have HB:=a_ (Below.refl w.heap.size w);unfold Ak.f at h;have H:=h;clear h;have H':=a_ H;clear H;go_enter Tryd.func21,Tryd.ntmps21;go_wp2;go_loopg [3,4] k (λkq v3 v4 w'=>∃(m:Int) (a:Int),v3=.int .i64 m∧v4=.int .i64 a∧Ae (Ak.l0 kq l0 m a=some r)∧Ae (kq≤k)∧Ae (Below w.heap.size w w'))
 case atStart=>exact⟨(0),(0),(Cr),(Cr),H',⟨Nat.le_refl _⟩,⟨Ad⟩⟩
 clear H';obtain⟨m,a,rfl,rfl,HA,ay,HB⟩:=hrel;cases gk with
 | zero=>exact absurd HA.o (by simp[Ak.l0])
 | succ k1 =>
  have H:=HA.o
  clear HA
  simp only[Ak.l0]at H
  by_cases c2:a<(l0.length:Int)
  ·rw[if_pos c2]at H
   have bx:decide (a<(l0.length:Int))=true:=BJ c2
   clear c2
   have bl:=a_ H
   clear H
   go_upto_region 5 with(fail)
   go_cut [36] (λbR wc=>∃(kq:Nat) (aA:Bool),bR=.bool aA∧Ae (Ak.j1 kq l0 m a aA=some r)∧Ae (kq≤k1)∧Ae (Below w.heap.size w wc))
   case first =>
    have H:=bl.o
    clear bl
    by_cases c4:0≤a
    ·rw[if_pos c4]at H
     have bj:decide (0≤a)=true:=BJ c4
     clear c4
     (first|rw[bj]|(simp only[Cp,Cv];rw[bj])|skip)
     replace H:=BU H
     obtain⟨bF,bw,H⟩:=H
     try dsimp only at H
     have A5:=a_ bw
     clear bw
     by_cases c6:bF=true
     ·subst c6
      have H1:(if a>0 then(if 0≤(wrap64 (a-1))then(if(wrap64 (a-1))<(l0.length:Int)then(Ak.j1 k1 l0 m a (decide (((Ag l0 a).f1)>(wrap64 (((Ag l0 (wrap64 (a-1))).f1)+1)))))else(none))else(none))else(Ak.j1 k1 l0 m a false))=some r:=by rw[if_pos rfl]at H;exact H
      clear H
      have H:=H1
      clear H1
      by_cases c7:a>0
      ·rw[if_pos c7]at H
       have aS:decide (0<a)=true:=BJ c7
       clear c7
       obtain⟨T,aC⟩:∃j_:Int,(wrap64 (a-1))=j_:=⟨_,rfl⟩
       replace H:(if 0≤(T)then(if(T)<(l0.length:Int)then(Ak.j1 k1 l0 m a (decide (((Ag l0 a).f1)>(wrap64 (((Ag l0 (T)).f1)+1)))))else(none))else(none))=some r:=by first|(rw[aC]at H;exact H)|(simp only[aC]at H⊢;exact H)
       (try rw[aC]at A5)
       have bP:(IntKind.i64.wrap (a-1))=T:=(Cp _).trans aC
       by_cases c9:0≤(T)
       ·rw[if_pos c9]at H
        have bS:decide (0≤(T))=true:=BJ c9
        clear c9
        by_cases Dr:(T)<(l0.length:Int)
        ·rw[if_pos Dr]at H
         have bI:decide ((T)<(l0.length:Int))=true:=BJ Dr
         clear Dr
         have H':=a_ H
         clear H
         try go_wp2
         replace HB:=a_ (Ay HB.o)
         have O:0≤(a:Int):=Bu
         have P:a<(l0.length:Int):=Bu
         obtain⟨b,aB,g,i,j⟩:=BV ag.o a O P
         have z:=j
         have y:=i
         have x:=g
         cases aB
         replace g:=(Au HB.o g:)
         replace i:=(Au HB.o i:)
         replace j:=(Au HB.o j:)
         replace O:=eq_true O
         replace P:=eq_true P
         have a8:0≤(a:Int):=Bu
         have ba:a<(l0.length:Int):=Bu
         obtain⟨bm,bA,A,B,D⟩:=BV ag.o a a8 ba
         have aF:=D
         have aE:=B
         have aD:=A
         obtain rfl:b=bm:=(by injection bA)
         replace A:=(Au HB.o A:)
         replace B:=(Au HB.o B:)
         replace D:=(Au HB.o D:)
         replace a8:=eq_true a8
         replace ba:=eq_true ba
         have aw:0≤((T):Int):=Bu
         have ax:(T)<(l0.length:Int):=Bu
         obtain⟨bn,bB,E,G,I⟩:=BV ag.o (T) aw ax
         have aI:=I
         have aH:=G
         have aG:=E
         obtain rfl:b=bn:=(by injection bB)
         replace E:=(Au HB.o E:)
         replace G:=(Au HB.o G:)
         replace I:=(Au HB.o I:)
         replace aw:=eq_true aw
         replace ax:=eq_true ax
         refine Ch (n:=25) (S:=λw'=>w'.cell? (b.add ((a).toNat*3))=some (.int .i64 ((Ag l0 a).f0))∧w'.cell? ⟨(b.add ((a).toNat*3)).block,(b.add ((a).toNat*3)).off+1,none⟩=some (.int .i64 ((Ag l0 a).f1))∧w'.cell? ⟨(b.add ((a).toNat*3)).block,(b.add ((a).toNat*3)).off+2,none⟩=some (.string ((Ag l0 a).f2))∧w'.cell? (b.add ((a).toNat*3))=some (.int .i64 ((Ag l0 a).f0))∧w'.cell? ⟨(b.add ((a).toNat*3)).block,(b.add ((a).toNat*3)).off+1,none⟩=some (.int .i64 ((Ag l0 a).f1))∧w'.cell? ⟨(b.add ((a).toNat*3)).block,(b.add ((a).toNat*3)).off+2,none⟩=some (.string ((Ag l0 a).f2))∧w'.cell? (b.add (((T)).toNat*3))=some (.int .i64 ((Ag l0 (T)).f0))∧w'.cell? ⟨(b.add (((T)).toNat*3)).block,(b.add (((T)).toNat*3)).off+1,none⟩=some (.int .i64 ((Ag l0 (T)).f1))∧w'.cell? ⟨(b.add (((T)).toNat*3)).block,(b.add (((T)).toNat*3)).off+2,none⟩=some (.string ((Ag l0 (T)).f2))) (ds:=[]) #[false,false,false,false,false,false,false,false,false,false,false,false,false,false,false,false,false,false,false,false,false,false,false,false,false] (by kernel_rfl) rfl rfl ⟨((Au HB.o x:)),((Au HB.o y:)),((Au HB.o z:)),((Au HB.o aD:)),((Au HB.o aE:)),((Au HB.o aF:)),((Au HB.o aG:)),((Au HB.o aH:)),((Au HB.o aI:))⟩ (λl=>?_);refine BZ Ak.Nf Ak.J0 (λHT_ HW_=>?_)
         generalize wr.drew=bV at HB g i j A B D E G I l⊢
         refine A_ 0 12 ?_
         refine A_ 1 13 ?_
         refine A_ 2 14 ?_
         refine Pr 3 15 l ?_
         refine EU 4 16 (λK hK=>?_)
         refine Dp Tryd.func39 (by kernel_rfl) rfl #[.agg #[.int .i64 ((Ag l0 a).f0),.int .i64 ((Ag l0 a).f1),.string ((Ag l0 a).f2)]] (by rfl) rfl rfl Lz ?_
         with_reducible refine(DZ.calls k1 ((Ag l0 a).f0) ((Ag l0 a).f1) ((Ag l0 a).f2) true _ A5.o).mono ?_
         rintro e bW ⟨rfl,hb⟩
         refine⟨_,rfl,?_⟩
         replace HB:=a_ (BA (Ad) hb)
         try clear hb
         refine hK.out _ _ ⟨((Au HB.o x:)),((Au HB.o y:)),((Au HB.o z:)),((Au HB.o aD:)),((Au HB.o aE:)),((Au HB.o aF:)),((Au HB.o aG:)),((Au HB.o aH:)),((Au HB.o aI:))⟩ (λl=>?_)
         clear hK K
         refine Ea 16 ?_
         refine A_ 5 17 ?_
         refine A_ 6 18 ?_
         refine A_ 7 19 ?_
         refine A_ 8 20 ?_
         refine A_ 9 21 ?_
         refine A_ 10 22 ?_
         refine A_ 11 23 ?_
         refine A_ 12 24 ?_
         refine A_ 13 25 ?_
         refine A_ 15 27 ?_
         refine A_ 16 28 ?_
         refine A_ 17 29 ?_
         refine A_ 18 30 ?_
         refine A_ 19 31 ?_
         refine Pr 14 26 l ?_
         refine Pr 20 32 l ?_
         refine A_ 21 33 ?_
         refine A_ 22 34 ?_
         refine A_ 23 35 ?_
         refine A_ 24 36 ?_
         refine CT (CU HT_.o (by kernel_rfl)) ?_
         try go_wp2
         go_meet
         case rel=>exact⟨_,(decide (((Ag l0 a).f1)>(wrap64 (((Ag l0 (T)).f1)+1)))),(by first|rfl|(simp;done)|(simp only[<-aC] <;> (first|rfl|simp))|(simp[*];done)),H',⟨by have:=ay.o;first|omega|exact Nat.le_refl _⟩,⟨Ad⟩⟩
        ·rw[if_neg Dr]at H
         exact absurd H (by simp)
       ·rw[if_neg c9]at H
        exact absurd H (by simp)
      ·rw[if_neg c7]at H
       have aS:decide (0<a)=false:=C1 c7
       clear c7
       have H':=a_ H
       clear H
       try go_wp2
       replace HB:=a_ (Ay HB.o)
       have O:0≤(a:Int):=Bu
       have P:a<(l0.length:Int):=Bu
       obtain⟨b,aB,g,i,j⟩:=BV ag.o a O P
       have z:=j
       have y:=i
       have x:=g
       cases aB
       replace g:=(Au HB.o g:)
       replace i:=(Au HB.o i:)
       replace j:=(Au HB.o j:)
       replace O:=eq_true O
       replace P:=eq_true P
       refine Ch (n:=25) (S:=λw'=>w'.cell? (b.add ((a).toNat*3))=some (.int .i64 ((Ag l0 a).f0))∧w'.cell? ⟨(b.add ((a).toNat*3)).block,(b.add ((a).toNat*3)).off+1,none⟩=some (.int .i64 ((Ag l0 a).f1))∧w'.cell? ⟨(b.add ((a).toNat*3)).block,(b.add ((a).toNat*3)).off+2,none⟩=some (.string ((Ag l0 a).f2))) (ds:=[]) #[false,false,false,false,false,false,false,false,false,false,false,false,false,false,false,false,false,false,false,false,false,false,false,false,false] (by kernel_rfl) rfl rfl ⟨((Au HB.o x:)),((Au HB.o y:)),((Au HB.o z:))⟩ (λl=>?_);refine BZ Ak.Nf Ak.J0 (λHT_ HW_=>?_)
       generalize wr.drew=bX at HB g i j l⊢
       refine A_ 0 12 ?_
       refine A_ 1 13 ?_
       refine A_ 2 14 ?_
       refine Nd 3 15 l ?_
       refine EU 4 16 (λK hK=>?_)
       refine Dp Tryd.func39 (by kernel_rfl) rfl #[.agg #[.int .i64 ((Ag l0 a).f0),.int .i64 ((Ag l0 a).f1),.string ((Ag l0 a).f2)]] (by rfl) rfl rfl Lz ?_
       with_reducible refine(DZ.calls k1 ((Ag l0 a).f0) ((Ag l0 a).f1) ((Ag l0 a).f2) true _ A5.o).mono ?_
       rintro e bY ⟨rfl,hb⟩
       refine⟨_,rfl,?_⟩
       replace HB:=a_ (BA (Ad) hb)
       try clear hb
       refine hK.out _ _ ⟨((Au HB.o x:)),((Au HB.o y:)),((Au HB.o z:))⟩ (λl=>?_)
       clear hK K
       refine Ea 16 ?_
       refine A_ 5 17 ?_
       refine A_ 6 18 ?_
       refine A_ 7 19 ?_
       refine A_ 8 20 ?_
       refine A_ 9 21 ?_
       refine D9 10 22 ?_
       refine D9 11 23 ?_
       refine D9 12 24 ?_
       refine D9 13 25 ?_
       refine D9 14 26 ?_
       refine D9 15 27 ?_
       refine D9 16 28 ?_
       refine D9 17 29 ?_
       refine D9 18 30 ?_
       refine D9 19 31 ?_
       refine D9 20 32 ?_
       refine D9 21 33 ?_
       refine D9 22 34 ?_
       refine A_ 23 35 ?_
       refine A_ 24 36 ?_
       refine CT (CU HT_.o (by kernel_rfl)) ?_
       try go_wp2
       go_meet
       case rel=>exact⟨_,(false),(Cr),H',⟨by have:=ay.o;first|omega|exact Nat.le_refl _⟩,⟨Ad⟩⟩
     ·replace c6:=Bool.eq_false_iff.mpr c6
      subst c6
      have H1:(Ak.j1 k1 l0 m a true)=some r:=by rw[if_neg (show¬ (false=true) by decide)]at H;exact H
      clear H
      have H:=H1
      clear H1
      have H':=a_ H
      clear H
      try go_wp2
      replace HB:=a_ (Ay HB.o)
      have O:0≤(a:Int):=Bu
      have P:a<(l0.length:Int):=Bu
      obtain⟨b,aB,g,i,j⟩:=BV ag.o a O P
      have z:=j
      have y:=i
      have x:=g
      cases aB
      replace g:=(Au HB.o g:)
      replace i:=(Au HB.o i:)
      replace j:=(Au HB.o j:)
      replace O:=eq_true O
      replace P:=eq_true P
      refine Ch (n:=25) (S:=λw'=>w'.cell? (b.add ((a).toNat*3))=some (.int .i64 ((Ag l0 a).f0))∧w'.cell? ⟨(b.add ((a).toNat*3)).block,(b.add ((a).toNat*3)).off+1,none⟩=some (.int .i64 ((Ag l0 a).f1))∧w'.cell? ⟨(b.add ((a).toNat*3)).block,(b.add ((a).toNat*3)).off+2,none⟩=some (.string ((Ag l0 a).f2))) (ds:=[]) #[false,false,false,false,false,false,false,false,false,false,false,false,false,false,false,false,false,false,false,false,false,false,false,false,false] (by kernel_rfl) rfl rfl ⟨((Au HB.o x:)),((Au HB.o y:)),((Au HB.o z:))⟩ (λl=>?_);refine BZ Ak.Nf Ak.J0 (λHT_ HW_=>?_)
      generalize wr.drew=bZ at HB g i j l⊢
      refine A_ 0 12 ?_
      refine A_ 1 13 ?_
      refine A_ 2 14 ?_
      refine Nd 3 15 l ?_
      refine EU 4 16 (λK hK=>?_)
      refine Dp Tryd.func39 (by kernel_rfl) rfl #[.agg #[.int .i64 ((Ag l0 a).f0),.int .i64 ((Ag l0 a).f1),.string ((Ag l0 a).f2)]] (by rfl) rfl rfl Lz ?_
      with_reducible refine(DZ.calls k1 ((Ag l0 a).f0) ((Ag l0 a).f1) ((Ag l0 a).f2) false _ A5.o).mono ?_
      rintro e b6 ⟨rfl,hb⟩
      refine⟨_,rfl,?_⟩
      replace HB:=a_ (BA (Ad) hb)
      try clear hb
      refine hK.out _ _ ⟨((Au HB.o x:)),((Au HB.o y:)),((Au HB.o z:))⟩ (λl=>?_)
      clear hK K
      refine Ea 16 ?_
      refine A_ 5 17 ?_
      refine A_ 6 18 ?_
      refine D9 7 19 ?_
      refine D9 8 20 ?_
      refine D9 9 21 ?_
      refine D9 10 22 ?_
      refine D9 11 23 ?_
      refine D9 12 24 ?_
      refine D9 13 25 ?_
      refine D9 14 26 ?_
      refine D9 15 27 ?_
      refine D9 16 28 ?_
      refine D9 17 29 ?_
      refine D9 18 30 ?_
      refine D9 19 31 ?_
      refine D9 20 32 ?_
      refine D9 21 33 ?_
      refine D9 22 34 ?_
      refine D9 23 35 ?_
      refine A_ 24 36 ?_
      refine CT (CU HT_.o (by kernel_rfl)) ?_
      try go_wp2
      go_meet
      case rel=>exact⟨_,(true),(Cr),H',⟨by have:=ay.o;first|omega|exact Nat.le_refl _⟩,⟨Ad⟩⟩
    ·rw[if_neg c4]at H
     exact absurd H (by simp)
   case rest =>
    clear bl
    try clear c4
    try clear c6
    try clear c7
    try clear aS
    try clear c9
    try clear Dr
    try clear g
    try clear i
    try clear j
    try clear A
    try clear B
    try clear D
    try clear E
    try clear G
    try clear I
    try clear O
    try clear aw
    try clear P
    try clear ax
    obtain⟨kq,aA,rfl,HA,aU,HB⟩:=hcut
    cases kq with
    | zero=>exact absurd HA.o (by simp[Ak.j1])
    | succ a6 =>
     have H:=HA.o
     clear HA
     simp only[Ak.j1]at H
     by_cases aV:aA=true
     ·subst aV
      have H1:(some false)=some r:=by rw[if_pos rfl]at H;exact H
      clear H
      have H:=H1
      clear H1
      obtain rfl:=C5 H
      go_wp2
      go_ret
      exact⟨C_,Ad⟩
     ·replace aV:=Bool.eq_false_iff.mpr aV
      subst aV
      have H1:(if 0≤a then(if a<(l0.length:Int)then((Ck.f ((Ag l0 a).f0)).bind λaT=>(if aT=true then(if((Ag l0 a).f0)=(wrap64 (m+1))then(Ak.j2 a6 l0 (wrap64 (m+1)) a)else(some false))else(Ak.j2 a6 l0 m a)))else(none))else(none))=some r:=by rw[if_neg (show¬ (false=true) by decide)]at H;exact H
      clear H
      have H:=H1
      clear H1
      by_cases aW:0≤a
      ·rw[if_pos aW]at H
       have a1:decide (0≤a)=true:=BJ aW
       clear aW
       by_cases aX:a<(l0.length:Int)
       ·rw[if_pos aX]at H
        have a2:decide (a<(l0.length:Int))=true:=BJ aX
        clear aX
        replace H:=BU H
        obtain⟨aT,bh,H⟩:=H
        try dsimp only at H
        have bG:=a_ bh
        clear bh
        have a0:=a_ H
        clear H
        have aJ:0≤(a:Int):=Bu
        have aK:a<(l0.length:Int):=Bu
        obtain⟨d,bC,Z,aa,ab⟩:=BV ag.o a aJ aK
        cases bC
        replace Z:=(Au HB.o Z:)
        replace aa:=(Au HB.o aa:)
        replace ab:=(Au HB.o ab:)
        replace aJ:=eq_true aJ
        replace aK:=eq_true aK
        go_upto_if 42 with(first|((with_reducible refine BN (f:=40) rfl ?_);refine BR 42 Tryd.func40 #[.int .i64 ((Ag l0 a).f0)] ?_;(with_reducible refine(Ck.calls ((Ag l0 a).f0) aT _ bG.o).mono ?_);rintro e w' ⟨rfl,⟨nd,rfl⟩⟩;refine⟨_,rfl,?_⟩))
        (try simp only[Act.put,List.setIfInBounds_toArray,List.set_cons_zero,List.set_cons_succ])
        go_cut [3] (λv3 wc=>∃(kq:Nat) (av:Int),v3=.int .i64 av∧Ae (Ak.j2 kq l0 av a=some r)∧Ae (kq≤a6)∧Ae (Below w.heap.size w wc))
        case first =>
         have H:=a0.o
         clear a0
         by_cases aY:aT=true
         ·subst aY
          have H1:(if((Ag l0 a).f0)=(wrap64 (m+1))then(Ak.j2 a6 l0 (wrap64 (m+1)) a)else(some false))=some r:=by rw[if_pos rfl]at H;exact H
          clear H
          have H:=H1
          clear H1
          by_cases az:((Ag l0 a).f0)=(wrap64 (m+1))
          ·rw[if_pos az]at H
           have Y:(((Ag l0 a).f0)==(wrap64 (m+1)))=true:=beq_iff_eq.mpr az
           have aO:(((Ag l0 a).f0) != (wrap64 (m+1)))=false:=Ff az
           clear az
           (first|rw[Y]|(simp only[Cp,Cv];rw[Y])|skip)
           have H':=a_ H
           clear H
           have ae:0≤(a:Int):=Bu
           have af:a<(l0.length:Int):=Bu
           obtain⟨aL,a3,J,L,M⟩:=BV ag.o a ae af
           obtain rfl:d=aL:=(by injection a3)
           replace J:=(Au HB.o J:)
           replace L:=(Au HB.o L:)
           replace M:=(Au HB.o M:)
           replace ae:=eq_true ae
           replace af:=eq_true af
           go_wp2
           go_meet
           case rel=>exact⟨_,(wrap64 (m+1)),(Cr),H',⟨by have:=ay.o;have:=aU.o;first|omega|exact Nat.le_refl _⟩,⟨Ad⟩⟩
          ·rw[if_neg az]at H
           have Y:(((Ag l0 a).f0)==(wrap64 (m+1)))=false:=Dq az
           have aO:(((Ag l0 a).f0) != (wrap64 (m+1)))=true:=bne_iff_ne.mpr az
           (first|rw[Y]|(simp only[Cp,Cv];rw[Y])|skip)
           obtain rfl:=C5 H
           have ae:0≤(a:Int):=Bu
           have af:a<(l0.length:Int):=Bu
           obtain⟨aL,a3,J,L,M⟩:=BV ag.o a ae af
           obtain rfl:d=aL:=(by injection a3)
           replace J:=(Au HB.o J:)
           replace L:=(Au HB.o L:)
           replace M:=(Au HB.o M:)
           replace ae:=eq_true ae
           replace af:=eq_true af
           go_wp2
           go_ret
           exact⟨C_,Ad⟩
         ·replace aY:=Bool.eq_false_iff.mpr aY
          subst aY
          have H1:(Ak.j2 a6 l0 m a)=some r:=by rw[if_neg (show¬ (false=true) by decide)]at H;exact H
          clear H
          have H:=H1
          clear H1
          have H':=a_ H
          clear H
          go_wp2
          go_meet
          case rel=>exact⟨_,(m),(Cr),H',⟨by have:=ay.o;have:=aU.o;first|omega|exact Nat.le_refl _⟩,⟨Ad⟩⟩
        case rest =>
         clear a0
         try clear c2
         try clear c4
         try clear c6
         try clear c7
         try clear aS
         try clear c9
         try clear Dr
         try clear aV
         try clear aW
         try clear a1
         try clear aX
         try clear a2
         try clear aY
         try clear az
         try clear Y
         try clear aO
         try clear g
         try clear i
         try clear j
         try clear A
         try clear B
         try clear D
         try clear E
         try clear G
         try clear I
         try clear Z
         try clear aa
         try clear ab
         try clear J
         try clear L
         try clear M
         try clear O
         try clear aw
         try clear aJ
         try clear ae
         try clear P
         try clear ax
         try clear aK
         try clear af
         obtain⟨kq,av,rfl,HA,aR,HB⟩:=hcut
         cases kq with
         | zero=>exact absurd HA.o (by simp[Ak.j2])
         | succ bk =>
          have H:=HA.o
          clear HA
          simp only[Ak.j2]at H
          have H':=a_ H
          clear H
          go_wp2
          go_loopg [5] bk (λkq v5 w'=>∃(c:Int),v5=.int .i64 c∧Ae (Ak.l1 kq l0 av a c=some r)∧Ae (kq≤bk)∧Ae (Below w.heap.size w w'))
          case atStart=>exact⟨(0),(Cr),H',⟨Nat.le_refl _⟩,⟨Ad⟩⟩
          case round =>
           clear H'
           try clear c2
           try clear c4
           try clear c6
           try clear c7
           try clear aS
           try clear c9
           try clear Dr
           try clear aV
           try clear aW
           try clear a1
           try clear aX
           try clear a2
           try clear aY
           try clear az
           try clear Y
           try clear aO
           try clear g
           try clear i
           try clear j
           try clear A
           try clear B
           try clear D
           try clear E
           try clear G
           try clear I
           try clear Z
           try clear aa
           try clear ab
           try clear J
           try clear L
           try clear M
           try clear O
           try clear aw
           try clear aJ
           try clear ae
           try clear P
           try clear ax
           try clear aK
           try clear af
           obtain⟨c,rfl,HA,bb,HB⟩:=hrel
           cases gk with
           | zero=>exact absurd HA.o (by simp[Ak.l1])
           | succ k4 =>
            have H:=HA.o
            clear HA
            simp only[Ak.l1]at H
            by_cases aZ:c<a
            ·rw[if_pos aZ]at H
             have bo:decide (c<a)=true:=BJ aZ
             clear aZ
             by_cases bc:0≤c
             ·rw[if_pos bc]at H
              have bJ:decide (0≤c)=true:=BJ bc
              clear bc
              by_cases bd:c<(l0.length:Int)
              ·rw[if_pos bd]at H
               have bK:decide (c<(l0.length:Int))=true:=BJ bd
               clear bd
               by_cases be:0≤a
               ·rw[if_pos be]at H
                have bL:decide (0≤a)=true:=BJ be
                clear be
                by_cases bf:a<(l0.length:Int)
                ·rw[if_pos bf]at H
                 have bM:decide (a<(l0.length:Int))=true:=BJ bf
                 clear bf
                 by_cases aP:((Ag l0 c).f0)=((Ag l0 a).f0)
                 ·rw[if_pos aP]at H
                  have bp:(((Ag l0 c).f0)==((Ag l0 a).f0))=true:=beq_iff_eq.mpr aP
                  have bq:(((Ag l0 c).f0) != ((Ag l0 a).f0))=false:=Ff aP
                  clear aP
                  obtain rfl:=C5 H
                  try go_wp2
                  replace HB:=a_ (Ay HB.o)
                  have ao:0≤(c:Int):=Bu
                  have ar:c<(l0.length:Int):=Bu
                  obtain⟨aM,a4,o,p,q⟩:=BV ag.o c ao ar
                  have aj:=q
                  have ai:=p
                  have ah:=o
                  obtain rfl:d=aM:=(by injection a4)
                  replace o:=(Au HB.o o:)
                  replace p:=(Au HB.o p:)
                  replace q:=(Au HB.o q:)
                  replace ao:=eq_true ao
                  replace ar:=eq_true ar
                  have aq:0≤(a:Int):=Bu
                  have au:a<(l0.length:Int):=Bu
                  obtain⟨aN,a5,t,u,v⟩:=BV ag.o a aq au
                  have an:=v
                  have al:=u
                  have ak:=t
                  obtain rfl:d=aN:=(by injection a5)
                  replace t:=(Au HB.o t:)
                  replace u:=(Au HB.o u:)
                  replace v:=(Au HB.o v:)
                  replace aq:=eq_true aq
                  replace au:=eq_true au
                  refine Ch (n:=11) (S:=λw'=>w'.cell? (d.add ((c).toNat*3))=some (.int .i64 ((Ag l0 c).f0))∧w'.cell? ⟨(d.add ((c).toNat*3)).block,(d.add ((c).toNat*3)).off+1,none⟩=some (.int .i64 ((Ag l0 c).f1))∧w'.cell? ⟨(d.add ((c).toNat*3)).block,(d.add ((c).toNat*3)).off+2,none⟩=some (.string ((Ag l0 c).f2))∧w'.cell? (d.add ((a).toNat*3))=some (.int .i64 ((Ag l0 a).f0))∧w'.cell? ⟨(d.add ((a).toNat*3)).block,(d.add ((a).toNat*3)).off+1,none⟩=some (.int .i64 ((Ag l0 a).f1))∧w'.cell? ⟨(d.add ((a).toNat*3)).block,(d.add ((a).toNat*3)).off+2,none⟩=some (.string ((Ag l0 a).f2))) (ds:=[]) #[false,false,false,false,false,false,false,false,false,false,false] (by kernel_rfl) rfl rfl ⟨((Au HB.o ah:)),((Au HB.o ai:)),((Au HB.o aj:)),((Au HB.o ak:)),((Au HB.o al:)),((Au HB.o an:))⟩ (λl=>?_);refine BZ Ak.Jd Ak.Hs (λHT_ HW_=>?_)
                  generalize wr.drew=b7 at HB o p q t u v l⊢
                  refine A_ 0 57 ?_
                  refine A_ 1 58 ?_
                  refine A_ 2 59 ?_
                  refine A_ 3 60 ?_
                  refine A_ 5 62 ?_
                  refine A_ 6 63 ?_
                  refine A_ 7 64 ?_
                  refine A_ 8 65 ?_
                  refine Kk 4 61 l ?_
                  refine Kk 9 66 l ?_
                  refine A_ 10 67 ?_
                  refine CT (CU HT_.o (by kernel_rfl)) ?_
                  try go_wp2
                  go_ret
                  exact⟨C_,Ad⟩
                 ·rw[if_neg aP]at H
                  have bp:(((Ag l0 c).f0)==((Ag l0 a).f0))=false:=Dq aP
                  have bq:(((Ag l0 c).f0) != ((Ag l0 a).f0))=true:=bne_iff_ne.mpr aP
                  have H':=a_ H
                  clear H
                  try go_wp2
                  replace HB:=a_ (Ay HB.o)
                  have ao:0≤(c:Int):=Bu
                  have ar:c<(l0.length:Int):=Bu
                  obtain⟨aM,a4,o,p,q⟩:=BV ag.o c ao ar
                  have aj:=q
                  have ai:=p
                  have ah:=o
                  obtain rfl:d=aM:=(by injection a4)
                  replace o:=(Au HB.o o:)
                  replace p:=(Au HB.o p:)
                  replace q:=(Au HB.o q:)
                  replace ao:=eq_true ao
                  replace ar:=eq_true ar
                  have aq:0≤(a:Int):=Bu
                  have au:a<(l0.length:Int):=Bu
                  obtain⟨aN,a5,t,u,v⟩:=BV ag.o a aq au
                  have an:=v
                  have al:=u
                  have ak:=t
                  obtain rfl:d=aN:=(by injection a5)
                  replace t:=(Au HB.o t:)
                  replace u:=(Au HB.o u:)
                  replace v:=(Au HB.o v:)
                  replace aq:=eq_true aq
                  replace au:=eq_true au
                  refine Ch (n:=11) (S:=λw'=>w'.cell? (d.add ((c).toNat*3))=some (.int .i64 ((Ag l0 c).f0))∧w'.cell? ⟨(d.add ((c).toNat*3)).block,(d.add ((c).toNat*3)).off+1,none⟩=some (.int .i64 ((Ag l0 c).f1))∧w'.cell? ⟨(d.add ((c).toNat*3)).block,(d.add ((c).toNat*3)).off+2,none⟩=some (.string ((Ag l0 c).f2))∧w'.cell? (d.add ((a).toNat*3))=some (.int .i64 ((Ag l0 a).f0))∧w'.cell? ⟨(d.add ((a).toNat*3)).block,(d.add ((a).toNat*3)).off+1,none⟩=some (.int .i64 ((Ag l0 a).f1))∧w'.cell? ⟨(d.add ((a).toNat*3)).block,(d.add ((a).toNat*3)).off+2,none⟩=some (.string ((Ag l0 a).f2))) (ds:=[]) #[false,false,false,false,false,false,false,false,false,false,false] (by kernel_rfl) rfl rfl ⟨((Au HB.o ah:)),((Au HB.o ai:)),((Au HB.o aj:)),((Au HB.o ak:)),((Au HB.o al:)),((Au HB.o an:))⟩ (λl=>?_);refine BZ Ak.Jd Ak.Hs (λHT_ HW_=>?_)
                  generalize wr.drew=b8 at HB o p q t u v l⊢
                  refine A_ 0 57 ?_
                  refine A_ 1 58 ?_
                  refine A_ 2 59 ?_
                  refine A_ 3 60 ?_
                  refine A_ 5 62 ?_
                  refine A_ 6 63 ?_
                  refine A_ 7 64 ?_
                  refine A_ 8 65 ?_
                  refine Kk 4 61 l ?_
                  refine Kk 9 66 l ?_
                  refine A_ 10 67 ?_
                  refine CT (CU HT_.o (by kernel_rfl)) ?_
                  try go_wp2
                  go_roundg k4
                  case measure=>have:=ay.o;have:=aU.o;have:=aR.o;have:=bb.o;omega
                  case rel=>exact⟨(wrap64 (c+1)),(Cr),H',⟨by have:=ay.o;have:=aU.o;have:=aR.o;have:=bb.o;omega⟩,⟨Ad⟩⟩
                ·rw[if_neg bf]at H
                 exact absurd H (by simp)
               ·rw[if_neg be]at H
                exact absurd H (by simp)
              ·rw[if_neg bd]at H
               exact absurd H (by simp)
             ·rw[if_neg bc]at H
              exact absurd H (by simp)
            ·rw[if_neg aZ]at H
             have bo:decide (c<a)=false:=C1 aZ
             clear aZ
             have H':=a_ H
             clear H
             go_wp2
             go_roundg k4
             case measure=>have:=ay.o;have:=aU.o;have:=aR.o;have:=bb.o;omega
             case rel=>exact⟨(av),(wrap64 (a+1)),(Cr),(Cr),H',⟨by have:=ay.o;have:=aU.o;have:=aR.o;have:=bb.o;omega⟩,⟨Ad⟩⟩
       ·rw[if_neg aX]at H
        exact absurd H (by simp)
      ·rw[if_neg aW]at H
       exact absurd H (by simp)
  ·rw[if_neg c2]at H
   have bx:decide (a<(l0.length:Int))=false:=C1 c2
   clear c2
   by_cases aQ:m=3
   ·rw[if_pos aQ]at H
    have br:(m==3)=true:=beq_iff_eq.mpr aQ
    have bu:(m != 3)=false:=Ff aQ
    clear aQ
    by_cases bg:0<(l0.length:Int)
    ·rw[if_pos bg]at H
     have bN:decide (0<(l0.length:Int))=true:=BJ bg
     have bO:decide (0<l0.length)=true:=BJ (by omega)
     clear bg
     obtain rfl:=C5 H
     have a7:0≤(0:Int):=(by omega)
     have a9:0<(l0.length:Int):=Bu
     obtain⟨bH,bz,U,W,X⟩:=BV ag.o 0 a7 a9
     cases bz
     have bQ:(0<l0.length)=True:=eq_true (by omega)
     (try rw[show((0:Int)).toNat=0 from rfl]at U)
     (try rw[show 0*3=0 from rfl]at U)
     (try rw[Addr.add_zero']at U)
     (try rw[show((0:Int)).toNat=0 from rfl]at W)
     (try rw[show 0*3=0 from rfl]at W)
     (try rw[Addr.add_zero']at W)
     (try rw[show((0:Int)).toNat=0 from rfl]at X)
     (try rw[show 0*3=0 from rfl]at X)
     (try rw[Addr.add_zero']at X)
     replace U:=(Au HB.o U:)
     replace W:=(Au HB.o W:)
     replace X:=(Au HB.o X:)
     replace a7:=eq_true a7
     replace a9:=eq_true a9
     go_wp2
     go_ret
     exact⟨C_,Ad⟩
    ·rw[if_neg bg]at H
     exact absurd H (by simp)
   ·rw[if_neg aQ]at H
    have br:(m==3)=false:=Dq aQ
    have bu:(m != 3)=true:=bne_iff_ne.mpr aQ
    obtain rfl:=C5 H
    go_wp2
    go_ret
    exact⟨C_,Ad⟩
mutual
def Ar.j0:Nat->Bool->Int->Int->List (Ba)->List (AM)->Int->Int->Option (Bool)
 | 0,_,_,_,_,_,_,_=>none
 | k+1,i,a,b,c,d,e,g=>if i=true then(some false)else(Ar.l0 k 0 a b c d e g)
def Ar.l0:Nat->Int->Int->Int->List (Ba)->List (AM)->Int->Int->Option (Bool)
 | 0,_,_,_,_,_,_,_=>none
 | k+1,i,b,e,g,a,c,d=>if i<(a.length:Int)then(if 0≤i then((Bv.f k ((Aa a i).f0) ((Aa a i).f1) ((Aa a i).f2.f0) ((Aa a i).f2.f1) ((Aa a i).f2.f2) ((Aa a i).f2.f3) ((Aa a i).f2.f4)).bind λj=>(if j=true then(if((Aa a i).f0)=b then(if((Aa a i).f1)=(wrap64 ((wrap64 (c+i))+1))then(if((Aa a i).f2.f0)=1 then(if((Aa a i).f2.f1)>(wrap64 ((wrap64 (10*b))+d))then(some false)else(Ar.l0 k (wrap64 (i+1)) b e g a c d))else(Ar.l0 k (wrap64 (i+1)) b e g a c d))else(some false))else(some false))else(some false)))else(none))else(some true)
end
def Ar.f(k:Nat)(c:Int)(a:Int)(e:List (Ba))(g:List (AM))(b:Int)(d:Int):Option (Bool):=(Aq.f c 1 3).bind λi=>(if i=true then((Aq.f a 0 40).bind λj=>(if j=true then((Ak.f k e).bind λl=>(if l=true then((Aq.f b 0 a).bind λm=>(if m=true then(if(wrap64 (b+(g.length:Int)))>40 then(Ar.j0 k true c a e g b d)else((Aq.f d 0 6).bind λn=>(Ar.j0 k (!n) c a e g b d)))else(Ar.j0 k true c a e g b d)))else(Ar.j0 k true c a e g b d)))else(Ar.j0 k true c a e g b d)))else(Ar.j0 k true c a e g b d))
theorem Ar.calls(k:Nat)(d:Int)(j:Int)(I:Option Addr)(J:Nat)(m:List (Ba))(ag:Option Addr)(K:Nat)(a:List (AM))(i:Int)(l:Int)(r:Bool)(w:World)(cx:Kd.C Dj w I m.length m)(cv:m.length≤J)(cy:Kd.C BT w ag a.length a)(cw:a.length≤K)(h:Ar.f k d j m a i l=some r) :
  Calls Tryd.prog 7 #[.agg #[.int .i64 d,.int .i64 j,.slice I m.length J,.slice ag a.length K,.int .i64 i,.int .i64 l]] w λe w'=>e=.returned (.bool r)∧Below w.heap.size w w':=by
 have jr:=Tryd.underlying26;have js:=Tryd.underlying32;have ae:=a_ cx;have ab:=a_ cv;clear cx cv;have X:=a_ cy;have c0:=a_ cw;clear cy cw;have HB:=a_ (Below.refl w.heap.size w);unfold Ar.f at h;have H:=h;clear h;have cI:=a_ H;clear H;go_enter Tryd.func7,Tryd.ntmps7;go_upto_region 1 with(first|((with_reducible refine Cd (N:=1) rfl ?_);refine CE 1 (#[.int .i64 d,.int .i64 j,.slice I m.length J,.slice ag a.length K,.int .i64 i,.int .i64 l]) 26 ?_;intro q hg w3 O G;have c:=a_ (O);have cZ:=a_ ((by rw[hg];exact(Ab (Ad)):w.heap.size≤q));have cY:=a_ ((by rw[hg];exact(Ab (Ad)):w.heap.size≤q));replace HB:=a_ (BA (Ad) G);clear G O hg))
 (try simp only[Act.put,List.setIfInBounds_toArray,List.set_cons_zero,List.set_cons_succ]);go_cut [43] (λjq wc=>∃(kq:Nat) (af:Bool),jq=.bool af∧Ae (Ar.j0 kq af d j m a i l=some r)∧Ae (kq≤k)∧Ae (wc.heap[q]?=some (.cells #[.int .i64 d,.int .i64 j,(.slice I m.length J),(.slice ag a.length K),.int .i64 i,.int .i64 l] 26 (0,0)))∧Ae (Below w.heap.size w wc))
 case first =>
  have H:=cI.o;clear cI;replace H:=BU H;obtain⟨cV,cS,H⟩:=H;try dsimp only at H
  have A4:=a_ cS;clear cS;by_cases c5:cV=true
  ·subst c5;have H1:((Aq.f j 0 40).bind λcz=>(if cz=true then((Ak.f k m).bind λai=>(if ai=true then((Aq.f i 0 j).bind λaa=>(if aa=true then(if(wrap64 (i+(a.length:Int)))>40 then(Ar.j0 k true d j m a i l)else((Aq.f l 0 6).bind λT=>(Ar.j0 k (!T) d j m a i l)))else(Ar.j0 k true d j m a i l)))else(Ar.j0 k true d j m a i l)))else(Ar.j0 k true d j m a i l)))=some r:=by rw[if_pos rfl]at H;exact H
   clear H;have H:=H1;clear H1;replace H:=BU H;obtain⟨cz,cT,H⟩:=H;try dsimp only at H
   have A6:=a_ cT;clear cT;by_cases c7:cz=true
   ·subst c7;have H1:((Ak.f k m).bind λai=>(if ai=true then((Aq.f i 0 j).bind λaa=>(if aa=true then(if(wrap64 (i+(a.length:Int)))>40 then(Ar.j0 k true d j m a i l)else((Aq.f l 0 6).bind λT=>(Ar.j0 k (!T) d j m a i l)))else(Ar.j0 k true d j m a i l)))else(Ar.j0 k true d j m a i l)))=some r:=by rw[if_pos rfl]at H;exact H
    clear H;have H:=H1;clear H1;replace H:=BU H;obtain⟨ai,cU,H⟩:=H;try dsimp only at H
    have A8:=a_ cU;clear cU;by_cases c9:ai=true
    ·subst c9;have H1:((Aq.f i 0 j).bind λaa=>(if aa=true then(if(wrap64 (i+(a.length:Int)))>40 then(Ar.j0 k true d j m a i l)else((Aq.f l 0 6).bind λT=>(Ar.j0 k (!T) d j m a i l)))else(Ar.j0 k true d j m a i l)))=some r:=by rw[if_pos rfl]at H;exact H
     clear H;have H:=H1;clear H1;replace H:=BU H;obtain⟨aa,cE,H⟩:=H;try dsimp only at H
     have cH:=a_ cE;clear cE;by_cases ao:aa=true
     ·subst ao;have H1:(if(wrap64 (i+(a.length:Int)))>40 then(Ar.j0 k true d j m a i l)else((Aq.f l 0 6).bind λT=>(Ar.j0 k (!T) d j m a i l)))=some r:=by rw[if_pos rfl]at H;exact H
      clear H;have H:=H1;clear H1;by_cases ah:(wrap64 (i+(a.length:Int)))>40
      ·rw[if_pos ah]at H;have U:decide (40<(wrap64 (i+(a.length:Int))))=true:=BJ ah;clear ah;(first|rw[U]|(simp only[Cp,Cv];rw[U])|skip);have H':=a_ H;clear H;obtain⟨bn,bo,bp,bq,br,bu,au,av,aw,ax,ay,az⟩:=Cs c.o;go_wp2_with(first|((with_reducible refine BN (f:=20) rfl ?_);refine BR 7 Tryd.func20 #[.int .i64 d,.int .i64 1,.int .i64 3] ?_;(with_reducible refine(Aq.calls d 1 3 true _ A4.o).mono ?_);rintro e w' ⟨rfl,⟨nd,rfl⟩⟩;refine⟨_,rfl,?_⟩)|(go_at_call 20;(with_reducible refine(Aq.calls j 0 40 true _ A6.o).mono ?_);rintro e w' ⟨rfl,⟨nd,rfl⟩⟩)|(go_at_call 21;(with_reducible refine(Ak.calls k _ _ m true _ ?q' ?z' A8.o).mono ?_);(case q'=>repeat(first|exact(Kd.Ct ae.o (Ad))|(with_reducible refine Kd.C_alloc ?_ _)|(with_reducible refine Kd.Cz ?_ _)|(with_reducible refine Kd.C_drew ?_)));(case z'=>exact ab.o);rintro e jt ⟨rfl,G⟩;replace HB:=a_ (BA (Ad) G);replace c:=a_ (C3 c.o G);(try clear G);obtain⟨bw,bx,bz,bA,bB,bC,aA,aB,aC,aD,aE,aF⟩:=Cs c.o)|(go_at_call 20;(with_reducible refine(Aq.calls i 0 j true _ cH.o).mono ?_);rintro e w' ⟨rfl,⟨nd,rfl⟩⟩));go_meet
       exact⟨_,(true),(Cr),H',⟨by first|omega|exact Nat.le_refl _⟩,⟨Bp c.o⟩,⟨Ad⟩⟩
      rw[if_neg ah]at H;have U:decide (40<(wrap64 (i+(a.length:Int))))=false:=C1 ah;clear ah;(first|rw[U]|(simp only[Cp,Cv];rw[U])|skip);replace H:=BU H;obtain⟨T,cF,H⟩:=H;try dsimp only at H
      have cX:=a_ cF;clear cF;have H':=a_ H;clear H;obtain⟨bD,bE,bF,bG,bH,bI,aG,aH,aI,aJ,aK,aL⟩:=Cs c.o;go_wp2_with(first|((with_reducible refine BN (f:=20) rfl ?_);refine BR 7 Tryd.func20 #[.int .i64 d,.int .i64 1,.int .i64 3] ?_;(with_reducible refine(Aq.calls d 1 3 true _ A4.o).mono ?_);rintro e w' ⟨rfl,⟨nd,rfl⟩⟩;refine⟨_,rfl,?_⟩)|(go_at_call 20;(with_reducible refine(Aq.calls j 0 40 true _ A6.o).mono ?_);rintro e w' ⟨rfl,⟨nd,rfl⟩⟩)|(go_at_call 21;(with_reducible refine(Ak.calls k _ _ m true _ ?q' ?z' A8.o).mono ?_);(case q'=>repeat(first|exact(Kd.Ct ae.o (Ad))|(with_reducible refine Kd.C_alloc ?_ _)|(with_reducible refine Kd.Cz ?_ _)|(with_reducible refine Kd.C_drew ?_)));(case z'=>exact ab.o);rintro e ju ⟨rfl,G⟩;replace HB:=a_ (BA (Ad) G);replace c:=a_ (C3 c.o G);(try clear G);obtain⟨bJ,bK,bL,bM,bN,bO,aM,aN,aO,aP,aQ,aR⟩:=Cs c.o)|(go_at_call 20;(with_reducible refine(Aq.calls i 0 j true _ cH.o).mono ?_);rintro e w' ⟨rfl,⟨nd,rfl⟩⟩)|(go_at_call 20;(with_reducible refine(Aq.calls l 0 6 T _ cX.o).mono ?_);rintro e w' ⟨rfl,⟨nd,rfl⟩⟩));go_meet
      exact⟨_,(!T),(Cr),H',⟨by first|omega|exact Nat.le_refl _⟩,⟨Bp c.o⟩,⟨Ad⟩⟩
     replace ao:=Bool.eq_false_iff.mpr ao;subst ao;have H1:(Ar.j0 k true d j m a i l)=some r:=by rw[if_neg (show¬ (false=true) by decide)]at H;exact H
     clear H;have H:=H1;clear H1;have H':=a_ H;clear H;obtain⟨bP,bQ,bR,bS,bT,bU,aS,aT,aU,aV,aW,aX⟩:=Cs c.o;go_wp2_with(first|((with_reducible refine BN (f:=20) rfl ?_);refine BR 7 Tryd.func20 #[.int .i64 d,.int .i64 1,.int .i64 3] ?_;(with_reducible refine(Aq.calls d 1 3 true _ A4.o).mono ?_);rintro e w' ⟨rfl,⟨nd,rfl⟩⟩;refine⟨_,rfl,?_⟩)|(go_at_call 20;(with_reducible refine(Aq.calls j 0 40 true _ A6.o).mono ?_);rintro e w' ⟨rfl,⟨nd,rfl⟩⟩)|(go_at_call 21;(with_reducible refine(Ak.calls k _ _ m true _ ?q' ?z' A8.o).mono ?_);(case q'=>repeat(first|exact(Kd.Ct ae.o (Ad))|(with_reducible refine Kd.C_alloc ?_ _)|(with_reducible refine Kd.Cz ?_ _)|(with_reducible refine Kd.C_drew ?_)));(case z'=>exact ab.o);rintro e jv ⟨rfl,G⟩;replace HB:=a_ (BA (Ad) G);replace c:=a_ (C3 c.o G);(try clear G);obtain⟨bV,bW,bX,bY,bZ,b6,aY,aZ,a0,a1,a2,a3⟩:=Cs c.o)|(go_at_call 20;(with_reducible refine(Aq.calls i 0 j false _ cH.o).mono ?_);rintro e w' ⟨rfl,⟨nd,rfl⟩⟩));go_meet
     exact⟨_,(true),(Cr),H',⟨by first|omega|exact Nat.le_refl _⟩,⟨Bp c.o⟩,⟨Ad⟩⟩
    replace c9:=Bool.eq_false_iff.mpr c9;subst c9;have H1:(Ar.j0 k true d j m a i l)=some r:=by rw[if_neg (show¬ (false=true) by decide)]at H;exact H
    clear H;have H:=H1;clear H1;have H':=a_ H;clear H;obtain⟨b7,b8,b9,b_,ca,cb,a4,a5,a6,a7,a8,a9⟩:=Cs c.o;go_wp2_with(first|((with_reducible refine BN (f:=20) rfl ?_);refine BR 7 Tryd.func20 #[.int .i64 d,.int .i64 1,.int .i64 3] ?_;(with_reducible refine(Aq.calls d 1 3 true _ A4.o).mono ?_);rintro e w' ⟨rfl,⟨nd,rfl⟩⟩;refine⟨_,rfl,?_⟩)|(go_at_call 20;(with_reducible refine(Aq.calls j 0 40 true _ A6.o).mono ?_);rintro e w' ⟨rfl,⟨nd,rfl⟩⟩)|(go_at_call 21;(with_reducible refine(Ak.calls k _ _ m false _ ?q' ?z' A8.o).mono ?_);(case q'=>repeat(first|exact(Kd.Ct ae.o (Ad))|(with_reducible refine Kd.C_alloc ?_ _)|(with_reducible refine Kd.Cz ?_ _)|(with_reducible refine Kd.C_drew ?_)));(case z'=>exact ab.o);rintro e jw ⟨rfl,G⟩;replace HB:=a_ (BA (Ad) G);replace c:=a_ (C3 c.o G);(try clear G)));go_meet
    exact⟨_,(true),(Cr),H',⟨by first|omega|exact Nat.le_refl _⟩,⟨Bp c.o⟩,⟨Ad⟩⟩
   replace c7:=Bool.eq_false_iff.mpr c7;subst c7;have H1:(Ar.j0 k true d j m a i l)=some r:=by rw[if_neg (show¬ (false=true) by decide)]at H;exact H
   clear H;have H:=H1;clear H1;have H':=a_ H;clear H;obtain⟨cd,cf,cg,cj,ck,cl,ba,bb,bc,bd,be,bf⟩:=Cs c.o;go_wp2_with(first|((with_reducible refine BN (f:=20) rfl ?_);refine BR 7 Tryd.func20 #[.int .i64 d,.int .i64 1,.int .i64 3] ?_;(with_reducible refine(Aq.calls d 1 3 true _ A4.o).mono ?_);rintro e w' ⟨rfl,⟨nd,rfl⟩⟩;refine⟨_,rfl,?_⟩)|(go_at_call 20;(with_reducible refine(Aq.calls j 0 40 false _ A6.o).mono ?_);rintro e w' ⟨rfl,⟨nd,rfl⟩⟩));go_meet
   exact⟨_,(true),(Cr),H',⟨by first|omega|exact Nat.le_refl _⟩,⟨Bp c.o⟩,⟨Ad⟩⟩
  replace c5:=Bool.eq_false_iff.mpr c5;subst c5;have H1:(Ar.j0 k true d j m a i l)=some r:=by rw[if_neg (show¬ (false=true) by decide)]at H;exact H
  clear H;have H:=H1;clear H1;have H':=a_ H;clear H;obtain⟨cm,cn,cp,cq,cr,ct,bg,bh,bj,bk,bl,bm⟩:=Cs c.o;go_wp2_with(first|((with_reducible refine BN (f:=20) rfl ?_);refine BR 7 Tryd.func20 #[.int .i64 d,.int .i64 1,.int .i64 3] ?_;(with_reducible refine(Aq.calls d 1 3 false _ A4.o).mono ?_);rintro e w' ⟨rfl,⟨nd,rfl⟩⟩;refine⟨_,rfl,?_⟩));go_meet
  exact⟨_,(true),(Cr),H',⟨by first|omega|exact Nat.le_refl _⟩,⟨Bp c.o⟩,⟨Ad⟩⟩
 clear cI;try clear c1
 try clear c5
 try clear c7
 try clear c9
 try clear ao
 try clear ah
 try clear U
 try clear bn bo bp bq br bu au av aw ax ay az
 try clear bw bx bz bA bB bC aA aB aC aD aE aF
 try clear bD bE bF bG bH bI aG aH aI aJ aK aL
 try clear bJ bK bL bM bN bO aM aN aO aP aQ aR
 try clear bP bQ bR bS bT bU aS aT aU aV aW aX
 try clear bV bW bX bY bZ b6 aY aZ a0 a1 a2 a3
 try clear b7 b8 b9 b_ ca cb a4 a5 a6 a7 a8 a9
 try clear cd cf cg cj ck cl ba bb bc bd be bf
 try clear cm cn cp cq cr ct bg bh bj bk bl bm
 obtain⟨kq,af,rfl,HA,cA,c,HB⟩:=hcut;cases kq with
 | zero=>exact absurd HA.o (by simp[Ar.j0])
 | succ cR =>
  have H:=HA.o
  clear HA
  simp only[Ar.j0]at H
  by_cases cu:af=true
  ·subst cu
   have H1:(some false)=some r:=by rw[if_pos rfl]at H;exact H
   clear H
   have H:=H1
   clear H1
   obtain rfl:=C5 H
   go_wp2
   go_ret
   exact⟨C_,Ad⟩
  ·replace cu:=Bool.eq_false_iff.mpr cu
   subst cu
   have H1:(Ar.l0 cR 0 d j m a i l)=some r:=by rw[if_neg (show¬ (false=true) by decide)]at H;exact H
   clear H
   have H:=H1
   clear H1
   have H':=a_ H
   clear H
   go_wp2
   go_loopg [3] cR (λkq v3 w'=>∃(b:Int),v3=.int .i64 b∧Ae (Ar.l0 kq b d j m a i l=some r)∧Ae (kq≤cR)∧Ae (w'.heap[q]?=some (.cells #[.int .i64 d,.int .i64 j,(.slice I m.length J),(.slice ag a.length K),.int .i64 i,.int .i64 l] 26 (0,0)))∧Ae (Below w.heap.size w w'))
   case atStart=>exact⟨(0),(Cr),H',⟨Nat.le_refl _⟩,⟨Bp c.o⟩,⟨Ad⟩⟩
   case round =>
    clear H'
    try clear c5
    try clear c7
    try clear c9
    try clear ao
    try clear ah
    try clear U
    try clear cu
    try clear bn bo bp bq br bu au av aw ax ay az
    try clear bw bx bz bA bB bC aA aB aC aD aE aF
    try clear bD bE bF bG bH bI aG aH aI aJ aK aL
    try clear bJ bK bL bM bN bO aM aN aO aP aQ aR
    try clear bP bQ bR bS bT bU aS aT aU aV aW aX
    try clear bV bW bX bY bZ b6 aY aZ a0 a1 a2 a3
    try clear b7 b8 b9 b_ ca cb a4 a5 a6 a7 a8 a9
    try clear cd cf cg cj ck cl ba bb bc bd be bf
    try clear cm cn cp cq cr ct bg bh bj bk bl bm
    obtain⟨b,rfl,HA,cB,c,HB⟩:=hrel
    cases gk with
    | zero=>exact absurd HA.o (by simp[Ar.l0])
    | succ k2 =>
     have H:=HA.o
     clear HA
     simp only[Ar.l0]at H
     by_cases aq:b<(a.length:Int)
     ·rw[if_pos aq]at H
      have cJ:decide (b<(a.length:Int))=true:=BJ aq
      clear aq
      by_cases cC:0≤b
      ·rw[if_pos cC]at H
       have jc:decide (0≤b)=true:=BJ cC
       clear cC
       replace H:=BU H
       obtain⟨cW,cG,H⟩:=H
       try dsimp only at H
       have an:=a_ cG
       clear cG
       by_cases cD:cW=true
       ·subst cD
        have H1:(if((Aa a b).f0)=d then(if((Aa a b).f1)=(wrap64 ((wrap64 (i+b))+1))then(if((Aa a b).f2.f0)=1 then(if((Aa a b).f2.f1)>(wrap64 ((wrap64 (10*d))+l))then(some false)else(Ar.l0 k2 (wrap64 (b+1)) d j m a i l))else(Ar.l0 k2 (wrap64 (b+1)) d j m a i l))else(some false))else(some false))=some r:=by rw[if_pos rfl]at H;exact H
        clear H
        have H:=H1
        clear H1
        by_cases aj:((Aa a b).f0)=d
        ·rw[if_pos aj]at H
         have cK:(((Aa a b).f0)==d)=true:=beq_iff_eq.mpr aj
         have cL:(((Aa a b).f0) != d)=false:=Ff aj
         clear aj
         by_cases ak:((Aa a b).f1)=(wrap64 ((wrap64 (i+b))+1))
         ·rw[if_pos ak]at H
          have cM:(((Aa a b).f1)==(wrap64 ((wrap64 (i+b))+1)))=true:=beq_iff_eq.mpr ak
          have cN:(((Aa a b).f1) != (wrap64 ((wrap64 (i+b))+1)))=false:=Ff ak
          clear ak
          by_cases al:((Aa a b).f2.f0)=1
          ·rw[if_pos al]at H
           have cO:(((Aa a b).f2.f0)==1)=true:=beq_iff_eq.mpr al
           have cP:(((Aa a b).f2.f0) != 1)=false:=Ff al
           clear al
           by_cases ar:((Aa a b).f2.f1)>(wrap64 ((wrap64 (10*d))+l))
           ·rw[if_pos ar]at H
            have cQ:decide ((wrap64 ((wrap64 (10*d))+l))<((Aa a b).f2.f1))=true:=BJ ar
            clear ar
            obtain rfl:=C5 H
            obtain⟨fV,fW,fX,fY,fZ,f_,c_,da,db,dc,dd,de⟩:=Cs (W:=wr) c.o
            have L:0≤(b:Int):=Bu
            have M:b<(a.length:Int):=Bu
            obtain⟨E,P,u,v,x,y,z,A,B⟩:=CD X.o b L M
            cases P
            replace u:=(Au HB.o u:)
            replace v:=(Au HB.o v:)
            replace x:=(Au HB.o x:)
            replace y:=(Au HB.o y:)
            replace z:=(Au HB.o z:)
            replace A:=(Au HB.o A:)
            replace B:=(Au HB.o B:)
            replace L:=eq_true L
            replace M:=eq_true M
            go_wp2_with(first|((with_reducible refine Cd (N:=4) rfl ?_);refine CE 4 (#[.int .i64 0,.int .i64 0,.int .i64 0,.int .i64 0,.int .i64 0,.int .i64 0,.string (⟨#[]⟩:ByteArray)]) 32 ?_;intro p hg jx O G;have t:=a_ (O);have Z:=a_ ((by rw[hg];exact(Ab (Ad)):w.heap.size≤p));have Y:=a_ ((by rw[hg];exact(Ab (Ad)):w.heap.size≤p));have n:=a_ ((by rw[hg];exact Nat.ne_of_lt (AU (g:=q) (o:=.cells #[.int .i64 d,.int .i64 j,.slice I m.length J,.slice (some E) a.length K,.int .i64 i,.int .i64 l] 26 (0,0)) (Bp c.o)):q≠p));have D:=a_ ((by rw[hg];exact Nat.ne_of_gt (AU (g:=q) (o:=.cells #[.int .i64 d,.int .i64 j,.slice I m.length J,.slice (some E) a.length K,.int .i64 i,.int .i64 l] 26 (0,0)) (Bp c.o)):p≠q));replace c:=a_ (C3 c.o G);replace HB:=a_ (BA (Ad) G);clear G O hg;have jd:=D.o;have jj:=n.o;obtain⟨ga,gb,gf,gg,gh,gi,gj,df,dg,dh,di,dj,dk,dm⟩:=Dz t.o)|((with_reducible refine BN (f:=22) rfl ?_);refine BR 57 Tryd.func22 #[.agg #[.int .i64 ((Aa a b).f0),.int .i64 ((Aa a b).f1),.int .i64 ((Aa a b).f2.f0),.int .i64 ((Aa a b).f2.f1),.int .i64 ((Aa a b).f2.f2),.int .i64 ((Aa a b).f2.f3),.string ((Aa a b).f2.f4)]] ?_;(with_reducible refine(Bv.calls k2 ((Aa a b).f0) ((Aa a b).f1) ((Aa a b).f2.f0) ((Aa a b).f2.f1) ((Aa a b).f2.f2) ((Aa a b).f2.f3) ((Aa a b).f2.f4) true _ an.o).mono ?_);rintro e jy ⟨rfl,G⟩;refine⟨_,rfl,?_⟩;replace c:=a_ (Az (g:=q) (o:=.cells #[.int .i64 d,.int .i64 j,.slice I m.length J,.slice (some E) a.length K,.int .i64 i,.int .i64 l] 26 (0,0)) (Dv n.o c.o) G);replace t:=a_ (Az (g:=p) (o:=.cells #[.int .i64 ((Aa a b).f0),.int .i64 ((Aa a b).f1),.int .i64 ((Aa a b).f2.f0),.int .i64 ((Aa a b).f2.f1),.int .i64 ((Aa a b).f2.f2),.int .i64 ((Aa a b).f2.f3),.string ((Aa a b).f2.f4)] 32 (0,0)) (JC t.o) G);replace HB:=a_ (BA (Ad) G);(try clear G);obtain⟨gl,gm,gn,gp,gq,gr,gu,dn,dp,dq,dr,du,dv,dw⟩:=Dz t.o;obtain⟨gv,gw,gx,gy,gz,gA,dx,dy,dz,dA,dB,dC⟩:=Cs c.o))
            go_ret
            exact⟨C_,Ad⟩
           ·rw[if_neg ar]at H
            have cQ:decide ((wrap64 ((wrap64 (10*d))+l))<((Aa a b).f2.f1))=false:=C1 ar
            clear ar
            have H':=a_ H
            clear H
            obtain⟨gB,gC,gD,gE,gF,gG,dD,dE,dF,dG,dH,dI⟩:=Cs (W:=wr) c.o
            have L:0≤(b:Int):=Bu
            have M:b<(a.length:Int):=Bu
            obtain⟨E,P,u,v,x,y,z,A,B⟩:=CD X.o b L M
            cases P
            replace u:=(Au HB.o u:)
            replace v:=(Au HB.o v:)
            replace x:=(Au HB.o x:)
            replace y:=(Au HB.o y:)
            replace z:=(Au HB.o z:)
            replace A:=(Au HB.o A:)
            replace B:=(Au HB.o B:)
            replace L:=eq_true L
            replace M:=eq_true M
            go_wp2_with(first|((with_reducible refine Cd (N:=4) rfl ?_);refine CE 4 (#[.int .i64 0,.int .i64 0,.int .i64 0,.int .i64 0,.int .i64 0,.int .i64 0,.string (⟨#[]⟩:ByteArray)]) 32 ?_;intro p hg jz O G;have t:=a_ (O);have Z:=a_ ((by rw[hg];exact(Ab (Ad)):w.heap.size≤p));have Y:=a_ ((by rw[hg];exact(Ab (Ad)):w.heap.size≤p));have n:=a_ ((by rw[hg];exact Nat.ne_of_lt (AU (g:=q) (o:=.cells #[.int .i64 d,.int .i64 j,.slice I m.length J,.slice (some E) a.length K,.int .i64 i,.int .i64 l] 26 (0,0)) (Bp c.o)):q≠p));have D:=a_ ((by rw[hg];exact Nat.ne_of_gt (AU (g:=q) (o:=.cells #[.int .i64 d,.int .i64 j,.slice I m.length J,.slice (some E) a.length K,.int .i64 i,.int .i64 l] 26 (0,0)) (Bp c.o)):p≠q));replace c:=a_ (C3 c.o G);replace HB:=a_ (BA (Ad) G);clear G O hg;have je:=D.o;have jk:=n.o;obtain⟨gH,gI,gJ,gK,gL,gM,gN,dJ,dK,dL,dM,dN,dO,dP⟩:=Dz t.o)|((with_reducible refine BN (f:=22) rfl ?_);refine BR 57 Tryd.func22 #[.agg #[.int .i64 ((Aa a b).f0),.int .i64 ((Aa a b).f1),.int .i64 ((Aa a b).f2.f0),.int .i64 ((Aa a b).f2.f1),.int .i64 ((Aa a b).f2.f2),.int .i64 ((Aa a b).f2.f3),.string ((Aa a b).f2.f4)]] ?_;(with_reducible refine(Bv.calls k2 ((Aa a b).f0) ((Aa a b).f1) ((Aa a b).f2.f0) ((Aa a b).f2.f1) ((Aa a b).f2.f2) ((Aa a b).f2.f3) ((Aa a b).f2.f4) true _ an.o).mono ?_);rintro e jA ⟨rfl,G⟩;refine⟨_,rfl,?_⟩;replace c:=a_ (Az (g:=q) (o:=.cells #[.int .i64 d,.int .i64 j,.slice I m.length J,.slice (some E) a.length K,.int .i64 i,.int .i64 l] 26 (0,0)) (Dv n.o c.o) G);replace t:=a_ (Az (g:=p) (o:=.cells #[.int .i64 ((Aa a b).f0),.int .i64 ((Aa a b).f1),.int .i64 ((Aa a b).f2.f0),.int .i64 ((Aa a b).f2.f1),.int .i64 ((Aa a b).f2.f2),.int .i64 ((Aa a b).f2.f3),.string ((Aa a b).f2.f4)] 32 (0,0)) (JC t.o) G);replace HB:=a_ (BA (Ad) G);(try clear G);obtain⟨gO,gP,gQ,gR,gS,gT,gU,dQ,dR,dS,dT,dU,dV,dW⟩:=Dz t.o;obtain⟨gV,gW,gX,gY,gZ,g0,dX,dY,dZ,d_,ea,ec⟩:=Cs c.o))
            go_roundg k2
            case measure=>have:=cA.o;have:=cB.o;omega
            case rel=>exact⟨(wrap64 (b+1)),(Cr),H',⟨by have:=cA.o;have:=cB.o;omega⟩,⟨Bp c.o⟩,⟨Ad⟩⟩
          ·rw[if_neg al]at H
           have cO:(((Aa a b).f2.f0)==1)=false:=Dq al
           have cP:(((Aa a b).f2.f0) != 1)=true:=bne_iff_ne.mpr al
           have H':=a_ H
           clear H
           obtain⟨g1,g2,g3,g4,g5,g6,ed,ee,ef,eg,eh,ei⟩:=Cs (W:=wr) c.o
           have L:0≤(b:Int):=Bu
           have M:b<(a.length:Int):=Bu
           obtain⟨E,P,u,v,x,y,z,A,B⟩:=CD X.o b L M
           cases P
           replace u:=(Au HB.o u:)
           replace v:=(Au HB.o v:)
           replace x:=(Au HB.o x:)
           replace y:=(Au HB.o y:)
           replace z:=(Au HB.o z:)
           replace A:=(Au HB.o A:)
           replace B:=(Au HB.o B:)
           replace L:=eq_true L
           replace M:=eq_true M
           go_wp2_with(first|((with_reducible refine Cd (N:=4) rfl ?_);refine CE 4 (#[.int .i64 0,.int .i64 0,.int .i64 0,.int .i64 0,.int .i64 0,.int .i64 0,.string (⟨#[]⟩:ByteArray)]) 32 ?_;intro p hg jB O G;have t:=a_ (O);have Z:=a_ ((by rw[hg];exact(Ab (Ad)):w.heap.size≤p));have Y:=a_ ((by rw[hg];exact(Ab (Ad)):w.heap.size≤p));have n:=a_ ((by rw[hg];exact Nat.ne_of_lt (AU (g:=q) (o:=.cells #[.int .i64 d,.int .i64 j,.slice I m.length J,.slice (some E) a.length K,.int .i64 i,.int .i64 l] 26 (0,0)) (Bp c.o)):q≠p));have D:=a_ ((by rw[hg];exact Nat.ne_of_gt (AU (g:=q) (o:=.cells #[.int .i64 d,.int .i64 j,.slice I m.length J,.slice (some E) a.length K,.int .i64 i,.int .i64 l] 26 (0,0)) (Bp c.o)):p≠q));replace c:=a_ (C3 c.o G);replace HB:=a_ (BA (Ad) G);clear G O hg;have jf:=D.o;have jl:=n.o;obtain⟨g7,g8,g9,g_,ha,hc,hd,ej,ek,en,eo,ep,er,et⟩:=Dz t.o)|((with_reducible refine BN (f:=22) rfl ?_);refine BR 57 Tryd.func22 #[.agg #[.int .i64 ((Aa a b).f0),.int .i64 ((Aa a b).f1),.int .i64 ((Aa a b).f2.f0),.int .i64 ((Aa a b).f2.f1),.int .i64 ((Aa a b).f2.f2),.int .i64 ((Aa a b).f2.f3),.string ((Aa a b).f2.f4)]] ?_;(with_reducible refine(Bv.calls k2 ((Aa a b).f0) ((Aa a b).f1) ((Aa a b).f2.f0) ((Aa a b).f2.f1) ((Aa a b).f2.f2) ((Aa a b).f2.f3) ((Aa a b).f2.f4) true _ an.o).mono ?_);rintro e jC ⟨rfl,G⟩;refine⟨_,rfl,?_⟩;replace c:=a_ (Az (g:=q) (o:=.cells #[.int .i64 d,.int .i64 j,.slice I m.length J,.slice (some E) a.length K,.int .i64 i,.int .i64 l] 26 (0,0)) (Dv n.o c.o) G);replace t:=a_ (Az (g:=p) (o:=.cells #[.int .i64 ((Aa a b).f0),.int .i64 ((Aa a b).f1),.int .i64 ((Aa a b).f2.f0),.int .i64 ((Aa a b).f2.f1),.int .i64 ((Aa a b).f2.f2),.int .i64 ((Aa a b).f2.f3),.string ((Aa a b).f2.f4)] 32 (0,0)) (JC t.o) G);replace HB:=a_ (BA (Ad) G);(try clear G);obtain⟨hf,hh,hj,hk,hn,ho,hp,eu,ev,ew,ey,ez,eA,eB⟩:=Dz t.o;obtain⟨hq,hr,ht,hv,hx,hy,eC,eD,eE,eF,eG,eH⟩:=Cs c.o))
           go_roundg k2
           case measure=>have:=cA.o;have:=cB.o;omega
           case rel=>exact⟨(wrap64 (b+1)),(Cr),H',⟨by have:=cA.o;have:=cB.o;omega⟩,⟨Bp c.o⟩,⟨Ad⟩⟩
         ·rw[if_neg ak]at H
          have cM:(((Aa a b).f1)==(wrap64 ((wrap64 (i+b))+1)))=false:=Dq ak
          have cN:(((Aa a b).f1) != (wrap64 ((wrap64 (i+b))+1)))=true:=bne_iff_ne.mpr ak
          obtain rfl:=C5 H
          obtain⟨hA,hC,hG,hH,hJ,hL,eI,eJ,eK,eL,eM,eN⟩:=Cs (W:=wr) c.o
          have L:0≤(b:Int):=Bu
          have M:b<(a.length:Int):=Bu
          obtain⟨E,P,u,v,x,y,z,A,B⟩:=CD X.o b L M
          cases P
          replace u:=(Au HB.o u:)
          replace v:=(Au HB.o v:)
          replace x:=(Au HB.o x:)
          replace y:=(Au HB.o y:)
          replace z:=(Au HB.o z:)
          replace A:=(Au HB.o A:)
          replace B:=(Au HB.o B:)
          replace L:=eq_true L
          replace M:=eq_true M
          go_wp2_with(first|((with_reducible refine Cd (N:=4) rfl ?_);refine CE 4 (#[.int .i64 0,.int .i64 0,.int .i64 0,.int .i64 0,.int .i64 0,.int .i64 0,.string (⟨#[]⟩:ByteArray)]) 32 ?_;intro p hg jD O G;have t:=a_ (O);have Z:=a_ ((by rw[hg];exact(Ab (Ad)):w.heap.size≤p));have Y:=a_ ((by rw[hg];exact(Ab (Ad)):w.heap.size≤p));have n:=a_ ((by rw[hg];exact Nat.ne_of_lt (AU (g:=q) (o:=.cells #[.int .i64 d,.int .i64 j,.slice I m.length J,.slice (some E) a.length K,.int .i64 i,.int .i64 l] 26 (0,0)) (Bp c.o)):q≠p));have D:=a_ ((by rw[hg];exact Nat.ne_of_gt (AU (g:=q) (o:=.cells #[.int .i64 d,.int .i64 j,.slice I m.length J,.slice (some E) a.length K,.int .i64 i,.int .i64 l] 26 (0,0)) (Bp c.o)):p≠q));replace c:=a_ (C3 c.o G);replace HB:=a_ (BA (Ad) G);clear G O hg;have jg:=D.o;have jm:=n.o;obtain⟨hM,hO,hP,hQ,hS,hT,hU,eO,eP,eQ,eR,eS,eT,eU⟩:=Dz t.o)|((with_reducible refine BN (f:=22) rfl ?_);refine BR 57 Tryd.func22 #[.agg #[.int .i64 ((Aa a b).f0),.int .i64 ((Aa a b).f1),.int .i64 ((Aa a b).f2.f0),.int .i64 ((Aa a b).f2.f1),.int .i64 ((Aa a b).f2.f2),.int .i64 ((Aa a b).f2.f3),.string ((Aa a b).f2.f4)]] ?_;(with_reducible refine(Bv.calls k2 ((Aa a b).f0) ((Aa a b).f1) ((Aa a b).f2.f0) ((Aa a b).f2.f1) ((Aa a b).f2.f2) ((Aa a b).f2.f3) ((Aa a b).f2.f4) true _ an.o).mono ?_);rintro e jE ⟨rfl,G⟩;refine⟨_,rfl,?_⟩;replace c:=a_ (Az (g:=q) (o:=.cells #[.int .i64 d,.int .i64 j,.slice I m.length J,.slice (some E) a.length K,.int .i64 i,.int .i64 l] 26 (0,0)) (Dv n.o c.o) G);replace t:=a_ (Az (g:=p) (o:=.cells #[.int .i64 ((Aa a b).f0),.int .i64 ((Aa a b).f1),.int .i64 ((Aa a b).f2.f0),.int .i64 ((Aa a b).f2.f1),.int .i64 ((Aa a b).f2.f2),.int .i64 ((Aa a b).f2.f3),.string ((Aa a b).f2.f4)] 32 (0,0)) (JC t.o) G);replace HB:=a_ (BA (Ad) G);(try clear G);obtain⟨hV,hW,hX,hY,hZ,h2,h5,eV,eW,eX,eY,eZ,e0,e1⟩:=Dz t.o;obtain⟨h6,h7,h8,h9,ia,ib,e2,e3,e4,e5,e6,e7⟩:=Cs c.o))
          go_ret
          exact⟨C_,Ad⟩
        ·rw[if_neg aj]at H
         have cK:(((Aa a b).f0)==d)=false:=Dq aj
         have cL:(((Aa a b).f0) != d)=true:=bne_iff_ne.mpr aj
         obtain rfl:=C5 H
         obtain⟨ic,ie,ig,ih,ij,ik,e8,e9,e_,fa,fb,fc⟩:=Cs (W:=wr) c.o
         have L:0≤(b:Int):=Bu
         have M:b<(a.length:Int):=Bu
         obtain⟨E,P,u,v,x,y,z,A,B⟩:=CD X.o b L M
         cases P
         replace u:=(Au HB.o u:)
         replace v:=(Au HB.o v:)
         replace x:=(Au HB.o x:)
         replace y:=(Au HB.o y:)
         replace z:=(Au HB.o z:)
         replace A:=(Au HB.o A:)
         replace B:=(Au HB.o B:)
         replace L:=eq_true L
         replace M:=eq_true M
         go_wp2_with(first|((with_reducible refine Cd (N:=4) rfl ?_);refine CE 4 (#[.int .i64 0,.int .i64 0,.int .i64 0,.int .i64 0,.int .i64 0,.int .i64 0,.string (⟨#[]⟩:ByteArray)]) 32 ?_;intro p hg jF O G;have t:=a_ (O);have Z:=a_ ((by rw[hg];exact(Ab (Ad)):w.heap.size≤p));have Y:=a_ ((by rw[hg];exact(Ab (Ad)):w.heap.size≤p));have n:=a_ ((by rw[hg];exact Nat.ne_of_lt (AU (g:=q) (o:=.cells #[.int .i64 d,.int .i64 j,.slice I m.length J,.slice (some E) a.length K,.int .i64 i,.int .i64 l] 26 (0,0)) (Bp c.o)):q≠p));have D:=a_ ((by rw[hg];exact Nat.ne_of_gt (AU (g:=q) (o:=.cells #[.int .i64 d,.int .i64 j,.slice I m.length J,.slice (some E) a.length K,.int .i64 i,.int .i64 l] 26 (0,0)) (Bp c.o)):p≠q));replace c:=a_ (C3 c.o G);replace HB:=a_ (BA (Ad) G);clear G O hg;have jh:=D.o;have jn:=n.o;obtain⟨il,im,iq,ir,iu,iv,iw,fe,fg,fh,fi,fj,fk,fl⟩:=Dz t.o)|((with_reducible refine BN (f:=22) rfl ?_);refine BR 57 Tryd.func22 #[.agg #[.int .i64 ((Aa a b).f0),.int .i64 ((Aa a b).f1),.int .i64 ((Aa a b).f2.f0),.int .i64 ((Aa a b).f2.f1),.int .i64 ((Aa a b).f2.f2),.int .i64 ((Aa a b).f2.f3),.string ((Aa a b).f2.f4)]] ?_;(with_reducible refine(Bv.calls k2 ((Aa a b).f0) ((Aa a b).f1) ((Aa a b).f2.f0) ((Aa a b).f2.f1) ((Aa a b).f2.f2) ((Aa a b).f2.f3) ((Aa a b).f2.f4) true _ an.o).mono ?_);rintro e jG ⟨rfl,G⟩;refine⟨_,rfl,?_⟩;replace c:=a_ (Az (g:=q) (o:=.cells #[.int .i64 d,.int .i64 j,.slice I m.length J,.slice (some E) a.length K,.int .i64 i,.int .i64 l] 26 (0,0)) (Dv n.o c.o) G);replace t:=a_ (Az (g:=p) (o:=.cells #[.int .i64 ((Aa a b).f0),.int .i64 ((Aa a b).f1),.int .i64 ((Aa a b).f2.f0),.int .i64 ((Aa a b).f2.f1),.int .i64 ((Aa a b).f2.f2),.int .i64 ((Aa a b).f2.f3),.string ((Aa a b).f2.f4)] 32 (0,0)) (JC t.o) G);replace HB:=a_ (BA (Ad) G);(try clear G);obtain⟨ix,iy,iz,iA,iB,iC,iD,fm,fo,fp,fq,ft,fu,fv⟩:=Dz t.o;obtain⟨iE,iF,iG,iH,iI,iJ,fw,fx,fy,fz,fA,fB⟩:=Cs c.o))
         go_ret
         exact⟨C_,Ad⟩
       ·replace cD:=Bool.eq_false_iff.mpr cD
        subst cD
        have H1:(some false)=some r:=by rw[if_neg (show¬ (false=true) by decide)]at H;exact H
        clear H
        have H:=H1
        clear H1
        obtain rfl:=C5 H
        obtain⟨iK,iL,iM,iN,iO,iP,fC,fD,fE,fF,fG,fH⟩:=Cs (W:=wr) c.o
        have L:0≤(b:Int):=Bu
        have M:b<(a.length:Int):=Bu
        obtain⟨E,P,u,v,x,y,z,A,B⟩:=CD X.o b L M
        cases P
        replace u:=(Au HB.o u:)
        replace v:=(Au HB.o v:)
        replace x:=(Au HB.o x:)
        replace y:=(Au HB.o y:)
        replace z:=(Au HB.o z:)
        replace A:=(Au HB.o A:)
        replace B:=(Au HB.o B:)
        replace L:=eq_true L
        replace M:=eq_true M
        go_wp2_with(first|((with_reducible refine Cd (N:=4) rfl ?_);refine CE 4 (#[.int .i64 0,.int .i64 0,.int .i64 0,.int .i64 0,.int .i64 0,.int .i64 0,.string (⟨#[]⟩:ByteArray)]) 32 ?_;intro p hg jH O G;have t:=a_ (O);have Z:=a_ ((by rw[hg];exact(Ab (Ad)):w.heap.size≤p));have Y:=a_ ((by rw[hg];exact(Ab (Ad)):w.heap.size≤p));have n:=a_ ((by rw[hg];exact Nat.ne_of_lt (AU (g:=q) (o:=.cells #[.int .i64 d,.int .i64 j,.slice I m.length J,.slice (some E) a.length K,.int .i64 i,.int .i64 l] 26 (0,0)) (Bp c.o)):q≠p));have D:=a_ ((by rw[hg];exact Nat.ne_of_gt (AU (g:=q) (o:=.cells #[.int .i64 d,.int .i64 j,.slice I m.length J,.slice (some E) a.length K,.int .i64 i,.int .i64 l] 26 (0,0)) (Bp c.o)):p≠q));replace c:=a_ (C3 c.o G);replace HB:=a_ (BA (Ad) G);clear G O hg;have ji:=D.o;have jo:=n.o;obtain⟨iQ,iR,iS,iT,iU,iV,iW,fI,fJ,fK,fL,fM,fN,fO⟩:=Dz t.o)|((with_reducible refine BN (f:=22) rfl ?_);refine BR 57 Tryd.func22 #[.agg #[.int .i64 ((Aa a b).f0),.int .i64 ((Aa a b).f1),.int .i64 ((Aa a b).f2.f0),.int .i64 ((Aa a b).f2.f1),.int .i64 ((Aa a b).f2.f2),.int .i64 ((Aa a b).f2.f3),.string ((Aa a b).f2.f4)]] ?_;(with_reducible refine(Bv.calls k2 ((Aa a b).f0) ((Aa a b).f1) ((Aa a b).f2.f0) ((Aa a b).f2.f1) ((Aa a b).f2.f2) ((Aa a b).f2.f3) ((Aa a b).f2.f4) false _ an.o).mono ?_);rintro e jI ⟨rfl,G⟩;refine⟨_,rfl,?_⟩;replace c:=a_ (Az (g:=q) (o:=.cells #[.int .i64 d,.int .i64 j,.slice I m.length J,.slice (some E) a.length K,.int .i64 i,.int .i64 l] 26 (0,0)) (Dv n.o c.o) G);replace t:=a_ (Az (g:=p) (o:=.cells #[.int .i64 ((Aa a b).f0),.int .i64 ((Aa a b).f1),.int .i64 ((Aa a b).f2.f0),.int .i64 ((Aa a b).f2.f1),.int .i64 ((Aa a b).f2.f2),.int .i64 ((Aa a b).f2.f3),.string ((Aa a b).f2.f4)] 32 (0,0)) (JC t.o) G);replace HB:=a_ (BA (Ad) G);(try clear G)))
        go_ret
        exact⟨C_,Ad⟩
      ·rw[if_neg cC]at H
       exact absurd H (by simp)
     ·rw[if_neg aq]at H
      have cJ:decide (b<(a.length:Int))=false:=C1 aq
      clear aq
      obtain rfl:=C5 H
      obtain⟨iX,iY,iZ,i_,ja,jb,fP,fQ,fR,fS,fT,fU⟩:=Cs (W:=wr) c.o
      go_wp2
      go_ret
      exact⟨C_,Ad⟩
mutual
def Am.j0:Nat->List Int->List Int->Bool->Option (Bool)
 | 0,_,_,_=>none
 | k+1,g,i,e=>if e=true then(some true)else((CG.f k g).bind λa=>((Ah.f k a.1 a.2.1 a.2.2.1 a.2.2.2.1 a.2.2.2.2.1 a.2.2.2.2.2).bind λb=>((Ar.f k a.1 a.2.1 a.2.2.1 a.2.2.2.1 a.2.2.2.2.1 a.2.2.2.2.2).bind λc=>(if(b != c)=true then(none)else(if b=true then(Am.l0 k i (a.2.2.2.1.length:Int) 0 a.1 a.2.1 a.2.2.1 a.2.2.2.1 a.2.2.2.2.1 a.2.2.2.2.2)else((Ar.f k a.1 a.2.1 a.2.2.1 a.2.2.2.1 a.2.2.2.2.1 a.2.2.2.2.2).bind λd=>(some (b==d))))))))
def Am.l0:Nat->List Int->Int->Int->Int->Int->List (Ba)->List (AM)->Int->Int->Option (Bool)
 | 0,_,_,_,_,_,_,_,_,_=>none
 | k+1,q,n,m,b,d,e,a,c,g=>if m<n then(if 0≤m then(if m<(a.length:Int)then(if((Aa a m).f0)=b then(if((Aa a m).f1)=(wrap64 ((wrap64 (c+m))+1))then(Am.l0 k q n (wrap64 (m+1)) b d e a c g)else(none))else(none))else(none))else(none))else((some (([]:List (AM)):List (AM))).bind λi=>(if i.length+a.length<2199023255552 then((some (i++a:List (AM))).bind λj=>((some (([(⟨wrap64 ((Int.tmod b 3)+1),wrap64 ((wrap64 (c+n))+1),(⟨2,wrap64 (11+Int.tmod (q.length:Int) 3),0,0,(⟨#[]⟩:ByteArray)⟩:Et)⟩:AM)]:List (AM)):List (AM))).bind λl=>(if j.length+l.length<2199023255552 then(if 0≤(mx (wrap64 (n-1)) 0)then(if(mx (wrap64 (n-1)) 0)≤(a.length:Int)then((Ah.f k b d e (j++l) c g).bind λo=>(if o=true then(none)else((Ah.f k b d e (a.take ((mx (wrap64 (n-1)) 0):Int).toNat) c g).bind λp=>(some p))))else(none))else(none))else(none))))else(none)))
end
def Am.f(k:Nat)(l0:List Int)(l1:List Int):Option (Bool):=if(l0.length:Int)>1048576 then(Am.j0 k l0 l1 true)else(Am.j0 k l0 l1 (decide ((l1.length:Int)>1048576)))
def Am.PR:Bool×List (List Nat×List Nat):=(true,[([],[]),([0],[0]),([],[]),([1,2],[1,2]),([3],[3]),([4],[4]),([],[]),([6],[6]),([5,7],[5,7]),([8],[8]),([9],[9]),([10,9],[9,10]),([9],[9]),([11,12,9],[9,11,12]),([13,9],[9,13]),([14,9],[9,14]),([9],[9]),([16,9],[9,16]),([9],[9]),([17,18,9],[9,17,18]),([19,9],[9,19]),([15,20,9],[9,15,20]),([9,21],[9,21])])
def Am.Qs:List Nat:=[0,1,0,7,15,31,0,64,255,511,1023,2047,1023,8191,16383,32767,1023,66559,1023,459775,984063,2097151,4194303]
theorem Am.Ls:ED .any (opsOf Tryd.f3 11)=Am.PR:=by kernel_rfl
theorem Am.Jt:DU Am.PR.2 Am.Qs=true:=by kernel_rfl
def Am.Ol:Bool×List (List Nat×List Nat):=(true,[([],[]),([],[]),([1],[1]),([0,2],[0,2]),([],[]),([4],[4]),([5],[5]),([6],[6]),([],[]),([8],[8]),([],[]),([9,10],[9,10]),([11],[11]),([],[]),([13],[13]),([14],[14]),([15],[15]),([16],[16]),([7,12,17],[7,12,17]),([18],[18]),([3,19,3],[3,19]),([0,1,2,3,4,5,6,7,8,9,10,11,12,13,14,15,16,17,18,19,20],[]),([21,20,20,0,1,2,3,4,5,6,7,8,9,10,11,12,13,14,15,16,17,18,19,20],[20,21])])
def Am.PF:List Nat:=[0,0,2,7,0,16,48,112,0,256,0,1792,3840,0,8192,24576,57344,122880,262128,524272,1048575,2097151,4194303]
theorem Am.Jd:ED .any (opsOf Tryd.f3 14)=Am.Ol:=by kernel_rfl
theorem Am.Hs:DU Am.Ol.2 Am.PF=true:=by kernel_rfl
end Go.Proofs.YtlhlpfnljglhoaaDoor.P
