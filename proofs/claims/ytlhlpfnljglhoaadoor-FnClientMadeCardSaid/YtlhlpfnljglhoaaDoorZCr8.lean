/- Joined by programs (wip/shake.py, wip/mini.py). -/
import Derived.Test.YtlhlpfnljglhoaaDoorZCr7
set_option linter.unusedVariables false
set_option linter.unusedSimpArgs false
set_option linter.unusedSectionVars false
set_option maxHeartbeats 8000000
set_option maxRecDepth 100000
open Go.Proofs.YtlhlpfnljglhoaaDoorW
namespace Go.Proofs.YtlhlpfnljglhoaaDoor.P
open Go.RowKit Go.Proofs.YtlhlpfnljglhoaaDoorW.PrintWords Go.Proofs.YtlhlpfnljglhoaaDoorW.Bb
def CF.f(g:Int)(e:Int):Option (Bool):=(AP.f g).bind λa=>(if a=true then(if e=0 then(some true)else((AP.f e).bind λb=>(some b)))else((Ce.f g).bind λc=>(if c=true then(if e=0 then(some true)else((AP.f e).bind λd=>(some d)))else(some false))))
theorem CF.calls(c:Int)(a:Int)(r:Bool)(w:World)(h:CF.f c a=some r)(x:Cm w) :
  Calls Tryd.prog 64 #[.int .i64 c,.int .i64 a] w λe w'=>e=.returned (.bool r)∧As w w':=by
 have HG:=a_ x;clear x;unfold CF.f at h;have H:=h;clear h;replace H:=BR H;obtain⟨t,k,H⟩:=H;try dsimp only at H
 have j:=a_ k;clear k;by_cases c4:t=true
 ·subst c4;have H1:(if a=0 then(some true)else((AP.f a).bind λd=>(some d)))=some r:=by rw[Ry rfl]at H;exact H
  clear H;have H:=H1;clear H1;by_cases c5:a=0
  ·rw[Ry c5]at H;have n:(a==0)=true:=RO.mpr c5;have o:(a != 0)=false:=Fc c5;clear c5;obtain rfl:=CW H;go_enter Tryd.func64,Tryd.ntmps64;go_wp2_with(first|((with_reducible refine BQ (f:=50) rfl ?_);refine BW 6 Tg #[.int .i64 c] ?_;(with_reducible refine(AP.calls c true _ j.o ?q').mono ?_);(case q'=>exact DN);rintro e w' ⟨rfl,⟨nd,rfl⟩⟩;refine⟨_,rfl,?_⟩));go_ret;exact⟨CA,by repeat(first|exact As.refl _|apply As.step)⟩
  rw[Rz c5]at H;have n:(a==0)=false:=Dr c5;have o:(a != 0)=true:=RX.mpr c5;replace H:=BR H;obtain⟨d,l,H⟩:=H;try dsimp only at H
  have y:=a_ l;clear l;obtain rfl:=CW H;go_enter Tryd.func64,Tryd.ntmps64;go_wp2_with(first|((with_reducible refine BQ (f:=50) rfl ?_);refine BW 6 Tg #[.int .i64 c] ?_;(with_reducible refine(AP.calls c true _ j.o ?q').mono ?_);(case q'=>exact DN);rintro e w' ⟨rfl,⟨nd,rfl⟩⟩;refine⟨_,rfl,?_⟩)|(go_at_call 50;(with_reducible refine(AP.calls a d _ y.o ?q').mono ?_);(case q'=>exact DN);rintro e w' ⟨rfl,⟨nd,rfl⟩⟩));go_ret;exact⟨CA,by repeat(first|exact As.refl _|apply As.step)⟩
 replace c4:=RE.mpr c4;subst c4;have H1:((Ce.f c).bind λg=>(if g=true then(if a=0 then(some true)else((AP.f a).bind λb=>(some b)))else(some false)))=some r:=by rw[Rz (show¬ (false=true) by decide)]at H;exact H
 clear H;have H:=H1;clear H1;replace H:=BR H;obtain⟨g,m,H⟩:=H;try dsimp only at H
 have v:=a_ m;clear m;by_cases c8:g=true
 ·subst c8;have H1:(if a=0 then(some true)else((AP.f a).bind λb=>(some b)))=some r:=by rw[Ry rfl]at H;exact H
  clear H;have H:=H1;clear H1;by_cases c9:a=0
  ·rw[Ry c9]at H;have p:(a==0)=true:=RO.mpr c9;have q:(a != 0)=false:=Fc c9;clear c9;obtain rfl:=CW H;go_enter Tryd.func64,Tryd.ntmps64;go_wp2_with(first|((with_reducible refine BQ (f:=50) rfl ?_);refine BW 6 Tg #[.int .i64 c] ?_;(with_reducible refine(AP.calls c false _ j.o ?q').mono ?_);(case q'=>exact DN);rintro e w' ⟨rfl,⟨nd,rfl⟩⟩;refine⟨_,rfl,?_⟩)|(go_at_call 36;(with_reducible refine(Ce.calls c true _ v.o ?q').mono ?_);(case q'=>exact DN);rintro e w' ⟨rfl,⟨nd,rfl⟩⟩));go_ret;exact⟨CA,by repeat(first|exact As.refl _|apply As.step)⟩
  rw[Rz c9]at H;have p:(a==0)=false:=Dr c9;have q:(a != 0)=true:=RX.mpr c9;replace H:=BR H;obtain⟨b,i,H⟩:=H;try dsimp only at H
  have u:=a_ i;clear i;obtain rfl:=CW H;go_enter Tryd.func64,Tryd.ntmps64;go_wp2_with(first|((with_reducible refine BQ (f:=50) rfl ?_);refine BW 6 Tg #[.int .i64 c] ?_;(with_reducible refine(AP.calls c false _ j.o ?q').mono ?_);(case q'=>exact DN);rintro e w' ⟨rfl,⟨nd,rfl⟩⟩;refine⟨_,rfl,?_⟩)|(go_at_call 36;(with_reducible refine(Ce.calls c true _ v.o ?q').mono ?_);(case q'=>exact DN);rintro e w' ⟨rfl,⟨nd,rfl⟩⟩)|(go_at_call 50;(with_reducible refine(AP.calls a b _ u.o ?q').mono ?_);(case q'=>exact DN);rintro e w' ⟨rfl,⟨nd,rfl⟩⟩));go_ret;exact⟨CA,by repeat(first|exact As.refl _|apply As.step)⟩
 replace c8:=RE.mpr c8;subst c8;have H1:(some false)=some r:=by rw[Rz (show¬ (false=true) by decide)]at H;exact H
 clear H;have H:=H1;clear H1;obtain rfl:=CW H;go_enter Tryd.func64,Tryd.ntmps64;go_wp2_with(first|((with_reducible refine BQ (f:=50) rfl ?_);refine BW 6 Tg #[.int .i64 c] ?_;(with_reducible refine(AP.calls c false _ j.o ?q').mono ?_);(case q'=>exact DN);rintro e w' ⟨rfl,⟨nd,rfl⟩⟩;refine⟨_,rfl,?_⟩)|(go_at_call 36;(with_reducible refine(Ce.calls c false _ v.o ?q').mono ?_);(case q'=>exact DN);rintro e w' ⟨rfl,⟨nd,rfl⟩⟩));go_ret;exact⟨CA,by repeat(first|exact As.refl _|apply As.step)⟩
end Go.Proofs.YtlhlpfnljglhoaaDoor.P
namespace Go.Proofs.YtlhlpfnljglhoaaDoor.P
open Go.RowKit Go.Proofs.YtlhlpfnljglhoaaDoorW.PrintWords Go.Proofs.YtlhlpfnljglhoaaDoorW.Bb Go.Proofs.YtlhlpfnljglhoaaDoorW.Dm
theorem GK{P:Program}{f:FuncId}{args:Array Value}{w:World}{d n:Nat}{v:Value}(h:Calls P f args (w.drewN (d+n)) λe w'=>e=.returned v∧As (w.drewN (d+n)) w') :
  Calls P f args (w.drewN (d+n)) λe a=>e=.returned v∧∃m,a=w.drewN (d+m) :=
 h.mono λ_ _ ⟨he,⟨m,hm⟩⟩=>⟨he,n+m,by rw[hm,RT,Sp]⟩
def Ek.f(k:Nat)(a e b c:Int)(d:ByteArray):Option Bool :=
 (AP.f e).bind λm=>if m=true then
  (if a=1 then((CF.f b c).bind λp=>if p=true then Bq.f k d else some false)
  else if a=2 then(if b=0 then(if c=0 then Bq.f k d else some false)else some false)
  else if a=3 then((CF.f b c).bind λp=>if p=true then some (d.toList.isEmpty)else some false)
  else some false)else some false
def Rp(b a c d:Int)(e:ByteArray):Value :=
 if b=1 then .iface 102 (.agg #[.int .i64 a,.int .i64 c,.int .i64 d,.string e])
 else if b=2 then .iface 105 (.agg #[.int .i64 a,.string e])
 else .iface 107 (.agg #[.int .i64 a,.int .i64 c,.int .i64 d])
def FU(w:World)(a b c d:Int)(g:ByteArray)(r:Bool)(e:Ending)(w':World):Prop :=
 ∃v:Value,e=.returned (.tuple #[v,.bool r])∧(r=true->v=Rp a b c d g)∧Below w.heap.size w w'
theorem Co(w:World)(o:Obj):Below w.heap.size w (w.alloc o):=(RG _ _).alloc (RB _) _
theorem IA(c a d g:Int)(i:ByteArray)(w:World)(hm:AP.f a=some false)(j:Cm w) :
  Calls Tryd.prog 52 #[.agg #[.int .i64 c,.int .i64 a,.int .i64 d,.int .i64 g,.string i]] w (FU w c a d g i false):=by have b:Cm (w.alloc (.cells #[.int .i64 c,.int .i64 a,.int .i64 d,.int .i64 g,.string i] 30)):=j.below (Co w _);have HG:=a_ b;clear b j;have k:=a_ hm;clear hm;go_enter Tryd.func52,Tryd.ntmps52;go_wp2_with(go_at_call 50;refine(AP.calls a _ _ k.o HG.o).mono ?_;rintro e w' ⟨rfl,⟨nd,rfl⟩⟩);go_ret2;exact⟨_,rfl,(λh=>by cases h),by(with_reducible repeat(first|exact Co w _|apply Au))⟩
theorem Jg(k:Nat)(i a b c:Int)(d:ByteArray)(r:Bool)(w:World)(hm:AP.f a=some true)(l:CF.f b c=some true)(m:Bq.f k d=some r)(h0:i=1)(j:Cm w) :
  Calls Tryd.prog 52 #[.agg #[.int .i64 i,.int .i64 a,.int .i64 b,.int .i64 c,.string d]] w (FU w i a b c d r):=by have g:Cm (w.alloc (.cells #[.int .i64 i,.int .i64 a,.int .i64 b,.int .i64 c,.string d] 30)):=j.below (Co w _);have HG:=a_ g;clear g j;subst h0;have n:=a_ hm;have o:=a_ l;have p:=a_ m;clear hm l m;go_enter Tryd.func52,Tryd.ntmps52;go_wp2_with(go_at_call 50;refine(AP.calls a _ _ n.o HG.o).mono ?_;rintro e w' ⟨rfl,⟨nd,rfl⟩⟩);go_quiet((first|(go_at_call 64;refine GK (CF.calls b c true _ o.o (by(with_reducible repeat(first|exact HG.o|apply Cm.drewN|apply Cm.drew)))))|(go_at_call 51;refine GK (Bq.calls k d r _ p.o))));go_wp2;go_ret2;exact⟨_,rfl,λ_=>rfl,by(with_reducible repeat(first|exact Co w _|apply Au))⟩
theorem Ic(g a b c:Int)(i:ByteArray)(w:World)(hm:AP.f a=some true)(k:CF.f b c=some false)(h0:g=1)(j:Cm w) :
  Calls Tryd.prog 52 #[.agg #[.int .i64 g,.int .i64 a,.int .i64 b,.int .i64 c,.string i]] w (FU w g a b c i false):=by have d:Cm (w.alloc (.cells #[.int .i64 g,.int .i64 a,.int .i64 b,.int .i64 c,.string i] 30)):=j.below (Co w _);have HG:=a_ d;clear d j;subst h0;have l:=a_ hm;have m:=a_ k;clear hm k;go_enter Tryd.func52,Tryd.ntmps52;go_wp2_with(go_at_call 50;refine(AP.calls a _ _ l.o HG.o).mono ?_;rintro e w' ⟨rfl,⟨nd,rfl⟩⟩);go_quiet((go_at_call 64;refine GK (CF.calls b c false _ m.o (by(with_reducible repeat(first|exact HG.o|apply Cm.drewN|apply Cm.drew))))));go_wp2;go_ret2;exact⟨_,rfl,(λh=>by cases h),by(with_reducible repeat(first|exact Co w _|apply Au))⟩
theorem Ji(k:Nat)(d a g i:Int)(b:ByteArray)(r:Bool)(w:World)(hm:AP.f a=some true)(o:g=0)(h3:i=0)(l:Bq.f k b=some r)(h0:d=2)(j:Cm w) :
  Calls Tryd.prog 52 #[.agg #[.int .i64 d,.int .i64 a,.int .i64 g,.int .i64 i,.string b]] w (FU w d a g i b r):=by have c:Cm (w.alloc (.cells #[.int .i64 d,.int .i64 a,.int .i64 g,.int .i64 i,.string b] 30)):=j.below (Co w _);have HG:=a_ c;clear c j;subst h0 o h3;have m:=a_ hm;have n:=a_ l;clear hm l;go_enter Tryd.func52,Tryd.ntmps52;go_wp2_with(go_at_call 50;refine(AP.calls a _ _ m.o HG.o).mono ?_;rintro e w' ⟨rfl,⟨nd,rfl⟩⟩);go_quiet((go_at_call 51;refine GK (Bq.calls k b r _ n.o)));go_wp2;go_ret2;exact⟨_,rfl,λ_=>rfl,by(with_reducible repeat(first|exact Co w _|apply Au))⟩
theorem Hg(d a b g:Int)(i:ByteArray)(w:World)(hm:AP.f a=some true)(j:b≠0)(h0:d=2)(k:Cm w) :
  Calls Tryd.prog 52 #[.agg #[.int .i64 d,.int .i64 a,.int .i64 b,.int .i64 g,.string i]] w (FU w d a b g i false):=by have c:Cm (w.alloc (.cells #[.int .i64 d,.int .i64 a,.int .i64 b,.int .i64 g,.string i] 30)):=k.below (Co w _);have HG:=a_ c;clear c k;subst h0;have m:(b==0)=false:=Sx.2 j;clear j;have l:=a_ hm;clear hm;go_enter Tryd.func52,Tryd.ntmps52;go_wp2_with(go_at_call 50;refine(AP.calls a _ _ l.o HG.o).mono ?_;rintro e w' ⟨rfl,⟨nd,rfl⟩⟩);go_quiet(fail);go_wp2;go_ret2;exact⟨_,rfl,(λh=>by cases h),by(with_reducible repeat(first|exact Co w _|apply Au))⟩
theorem Hh(d a g b:Int)(i:ByteArray)(w:World)(hm:AP.f a=some true)(l:g=0)(h3:b≠0)(h0:d=2)(j:Cm w) :
  Calls Tryd.prog 52 #[.agg #[.int .i64 d,.int .i64 a,.int .i64 g,.int .i64 b,.string i]] w (FU w d a g b i false):=by have c:Cm (w.alloc (.cells #[.int .i64 d,.int .i64 a,.int .i64 g,.int .i64 b,.string i] 30)):=j.below (Co w _);have HG:=a_ c;clear c j;subst h0 l;have m:(b==0)=false:=Sx.2 h3;clear h3;have k:=a_ hm;clear hm;go_enter Tryd.func52,Tryd.ntmps52;go_wp2_with(go_at_call 50;refine(AP.calls a _ _ k.o HG.o).mono ?_;rintro e w' ⟨rfl,⟨nd,rfl⟩⟩);go_quiet(fail);go_wp2;go_ret2;exact⟨_,rfl,(λh=>by cases h),by(with_reducible repeat(first|exact Co w _|apply Au))⟩
theorem Jh(g a b c:Int)(i:ByteArray)(w:World)(hm:AP.f a=some true)(k:CF.f b c=some true)(h0:g=3)(j:Cm w) :
  Calls Tryd.prog 52 #[.agg #[.int .i64 g,.int .i64 a,.int .i64 b,.int .i64 c,.string i]] w (FU w g a b c i i.toList.isEmpty):=by have d:Cm (w.alloc (.cells #[.int .i64 g,.int .i64 a,.int .i64 b,.int .i64 c,.string i] 30)):=j.below (Co w _);have HG:=a_ d;clear d j;subst h0;have l:=a_ hm;have m:=a_ k;clear hm k;go_enter Tryd.func52,Tryd.ntmps52;go_wp2_with(go_at_call 50;refine(AP.calls a _ _ l.o HG.o).mono ?_;rintro e w' ⟨rfl,⟨nd,rfl⟩⟩);go_quiet((go_at_call 64;refine GK (CF.calls b c true _ m.o (by(with_reducible repeat(first|exact HG.o|apply Cm.drewN|apply Cm.drew))))));go_wp2;go_ret2;exact⟨_,rfl,λ_=>rfl,by(with_reducible repeat(first|exact Co w _|apply Au))⟩
theorem Ie(g a b c:Int)(i:ByteArray)(w:World)(hm:AP.f a=some true)(k:CF.f b c=some false)(h0:g=3)(j:Cm w) :
  Calls Tryd.prog 52 #[.agg #[.int .i64 g,.int .i64 a,.int .i64 b,.int .i64 c,.string i]] w (FU w g a b c i false):=by have d:Cm (w.alloc (.cells #[.int .i64 g,.int .i64 a,.int .i64 b,.int .i64 c,.string i] 30)):=j.below (Co w _);have HG:=a_ d;clear d j;subst h0;have l:=a_ hm;have m:=a_ k;clear hm k;go_enter Tryd.func52,Tryd.ntmps52;go_wp2_with(go_at_call 50;refine(AP.calls a _ _ l.o HG.o).mono ?_;rintro e w' ⟨rfl,⟨nd,rfl⟩⟩);go_quiet((go_at_call 64;refine GK (CF.calls b c false _ m.o (by(with_reducible repeat(first|exact HG.o|apply Cm.drewN|apply Cm.drew))))));go_wp2;go_ret2;exact⟨_,rfl,(λh=>by cases h),by(with_reducible repeat(first|exact Co w _|apply Au))⟩
theorem Jf(a b d g:Int)(i:ByteArray)(w:World)(hm:AP.f b=some true)(h1:a≠1)(j:a≠2)(h3:a≠3)(k:Cm w) :
  Calls Tryd.prog 52 #[.agg #[.int .i64 a,.int .i64 b,.int .i64 d,.int .i64 g,.string i]] w (FU w a b d g i false):=by have c:Cm (w.alloc (.cells #[.int .i64 a,.int .i64 b,.int .i64 d,.int .i64 g,.string i] 30)):=k.below (Co w _);have HG:=a_ c;clear c k;have m:(a==1)=false:=Sx.2 h1;have n:(a==2)=false:=Sx.2 j;have o:(a==3)=false:=Sx.2 h3;clear h1 j h3;have l:=a_ hm;clear hm;go_enter Tryd.func52,Tryd.ntmps52;go_wp2_with(go_at_call 50;refine(AP.calls b _ _ l.o HG.o).mono ?_;rintro e w' ⟨rfl,⟨nd,rfl⟩⟩);go_ret2;exact⟨_,rfl,(λh=>by cases h),by(with_reducible repeat(first|exact Co w _|apply Au))⟩
theorem Ek.calls(k:Nat)(a d b c:Int)(e:ByteArray)(r:Bool)(w:World)(h:Ek.f k a d b c e=some r)(g:Cm w) :
  Calls Tryd.prog 52 #[.agg #[.int .i64 a,.int .i64 d,.int .i64 b,.int .i64 c,.string e]] w (FU w a d b c e r):=by
 unfold Ek.f at h;obtain⟨m,hm,h⟩:=SM.1 h;cases m with
 | false =>
  simp only[Bool.false_eq_true,if_false,Option.some.injEq]at h
  subst h
  exact IA a d b c e w hm g
 | true =>
  simp only[if_true]at h
  by_cases h1:a=1
  ·rw[Ry h1]at h
   obtain⟨p,l,h⟩:=SM.1 h
   cases p with
   | false =>
    simp only[Bool.false_eq_true,if_false,Option.some.injEq]at h
    subst h
    exact Ic a d b c e w hm l h1 g
   | true =>
    simp only[if_true]at h
    exact Jg k a d b c e r w hm l h h1 g
  ·rw[Rz h1]at h
   by_cases i:a=2
   ·rw[Ry i]at h
    by_cases j:b=0
    ·rw[Ry j]at h
     by_cases n:c=0
     ·rw[Ry n]at h
      exact Ji k a d b c e r w hm j n h i g
     ·rw[Rz n]at h
      simp only[Option.some.injEq]at h
      subst h
      exact Hh a d b c e w hm j n i g
    ·rw[Rz j]at h
     simp only[Option.some.injEq]at h
     subst h
     exact Hg a d b c e w hm j i g
   ·rw[Rz i]at h
    by_cases h3:a=3
    ·rw[Ry h3]at h
     obtain⟨p,l,h⟩:=SM.1 h
     cases p with
     | false =>
      simp only[Bool.false_eq_true,if_false,Option.some.injEq]at h
      subst h
      exact Ie a d b c e w hm l h3 g
     | true =>
      simp only[if_true,Option.some.injEq]at h
      subst h
      exact Jh a d b c e w hm l h3 g
    ·rw[Rz h3]at h
     simp only[Option.some.injEq]at h
     subst h
     exact Jf a d b c e w hm h1 i h3 g
def EJ.f(k:Nat)(a b c d:Int)(e:ByteArray):Option Bool:=Ek.f k a b c d e
theorem EJ.calls(k:Nat)(a b c d:Int)(g:ByteArray)(r:Bool)(w:World)(h:EJ.f k a b c d g=some r)(j:Cm w) :
  Calls Tryd.prog 37 #[.agg #[.int .i64 a,.int .i64 b,.int .i64 c,.int .i64 d,.string g]] w λe w'=>e=.returned (.bool r)∧Below w.heap.size w w':=by have i:Cm (w.alloc (.cells #[.int .i64 a,.int .i64 b,.int .i64 c,.int .i64 d,.string g] 30)):=j.below (Co w _);have HG:=a_ i;have m:=a_ h;clear i j h;have hu:=RW;go_enter Tryd.func37,Tryd.ntmps37;go_wp2_with(go_at_call 52;refine(Ek.calls k a b c d g r _ m.o HG.o).mono ?_;rintro e w1 ⟨v,rfl,_,l⟩;have HB:=a_ l;clear l);go_ret;exact⟨rfl,(Co w _).trans (HB.o.mono (by simp))⟩
end Go.Proofs.YtlhlpfnljglhoaaDoor.P
namespace Go.Proofs.YtlhlpfnljglhoaaDoor.P
open Go.RowKit Go.Proofs.YtlhlpfnljglhoaaDoorW.PrintWords Go.Proofs.YtlhlpfnljglhoaaDoorW.Bb
def CD.f(k:Nat)(a:Int)(b:Int)(c:Int)(d:Int)(g:Int)(i:Int)(j:ByteArray):Option (Bool):=(Cc.f a).bind λl=>(if l=true then(if b<1 then(some false)else(if b>40 then(some false)else((EJ.f k c d g i j).bind λm=>(if m=true then((Cz.f d).bind λe=>(if c=1 then(some (e.1==a))else(some true)))else(some false)))))else(some false))
theorem CD.calls(k:Nat)(b:Int)(i:Int)(c:Int)(d:Int)(j:Int)(l:Int)(m:ByteArray)(r:Bool)(w:World)(h:CD.f k b i c d j l m=some r)(hG:Cm w) :
  Calls Tryd.prog 19 #[.agg #[.int .i64 b,.int .i64 i,.int .i64 c,.int .i64 d,.int .i64 j,.int .i64 l,.string m]] w λe w'=>e=.returned (.bool r)∧Below w.heap.size w w':=by
 have b9:=Sk;have b8:=RW;have HB:=a_ (RG w.heap.size w);have HG:=a_ hG;clear hG;unfold CD.f at h;have H:=h;clear h;replace H:=BR H;obtain⟨O,K,H⟩:=H;try dsimp only at H
 have I:=a_ K;clear K;by_cases c3:O=true
 ·subst c3;have H1:(if i<1 then(some false)else(if i>40 then(some false)else((EJ.f k c d j l m).bind λv=>(if v=true then((Cz.f d).bind λt=>(if c=1 then(some (t.1==b))else(some true)))else(some false)))))=some r:=by rw[Ry rfl]at H;exact H
  clear H;have H:=H1;clear H1;by_cases c4:i<1
  ·rw[Ry c4]at H;have L:decide (i<1)=true:=BM c4;clear c4;obtain rfl:=CW H;go_enter Tryd.func19,Tryd.ntmps19;go_wp2_with(first|((with_reducible refine BV (N:=1) rfl ?_);refine Cy 1 (#[.int .i64 b,.int .i64 i,.int .i64 c,.int .i64 d,.int .i64 j,.int .i64 l,.string m]) 32 ?_;intro q hg w5 g n;have a:=a_ (g);have p:=BD w hg;have o:=BD w hg;replace HB:=Bw n;clear n g hg;obtain⟨bO,bP,bQ,bR,bS,bT,bU,bA,bB,bC,bD,bE,bF,bG⟩:=DC a.o)|((with_reducible refine BQ (f:=17) rfl ?_);refine BW 7 SN #[.int .i64 b] ?_;(with_reducible refine(Cc.calls b true _ I.o).mono ?_);rintro e w' ⟨rfl,⟨nd,rfl⟩⟩;refine⟨_,rfl,?_⟩));go_ret;exact⟨C8,Ag⟩
  rw[Rz c4]at H;have L:decide (i<1)=false:=C9 c4;clear c4;by_cases c7:i>40
  ·rw[Ry c7]at H;have M:decide (40<i)=true:=BM c7;clear c7;obtain rfl:=CW H;go_enter Tryd.func19,Tryd.ntmps19;go_wp2_with(first|((with_reducible refine BV (N:=1) rfl ?_);refine Cy 1 (#[.int .i64 b,.int .i64 i,.int .i64 c,.int .i64 d,.int .i64 j,.int .i64 l,.string m]) 32 ?_;intro q hg w8 g n;have a:=a_ (g);have p:=BD w hg;have o:=BD w hg;replace HB:=Bw n;clear n g hg;obtain⟨bV,bW,bX,bY,bZ,b6,b7,bH,bI,bJ,bK,bL,bM,bN⟩:=DC a.o)|((with_reducible refine BQ (f:=17) rfl ?_);refine BW 7 SN #[.int .i64 b] ?_;(with_reducible refine(Cc.calls b true _ I.o).mono ?_);rintro e w' ⟨rfl,⟨nd,rfl⟩⟩;refine⟨_,rfl,?_⟩));go_ret;exact⟨C8,Ag⟩
  rw[Rz c7]at H;have M:decide (40<i)=false:=C9 c7;clear c7;replace H:=BR H;obtain⟨v,y,H⟩:=H;try dsimp only at H
  have D:=a_ y;clear y;by_cases x:v=true
  ·subst x;have H1:((Cz.f d).bind λt=>(if c=1 then(some (t.1==b))else(some true)))=some r:=by rw[Ry rfl]at H;exact H
   clear H;have H:=H1;clear H1;replace H:=BR H;obtain⟨⟨A,B⟩,z,H⟩:=H;try dsimp only at H
   have J:=a_ z;clear z;by_cases u:c=1
   ·rw[Ry u]at H;have E:(c==1)=true:=RO.mpr u;have G:(c != 1)=false:=Fc u;clear u;obtain rfl:=CW H;go_enter Tryd.func19,Tryd.ntmps19;go_wp2_with(first|((with_reducible refine BV (N:=1) rfl ?_);refine Cy 1 (#[.int .i64 b,.int .i64 i,.int .i64 c,.int .i64 d,.int .i64 j,.int .i64 l,.string m]) 32 ?_;intro q hg b_ g n;have a:=a_ (g);have p:=BD w hg;have o:=BD w hg;replace HB:=Bw n;clear n g hg;obtain⟨aP,aQ,aR,aS,aT,aU,aV,P,T,U,W,X,Y,Z⟩:=DC a.o)|((with_reducible refine BQ (f:=17) rfl ?_);refine BW 7 SN #[.int .i64 b] ?_;(with_reducible refine(Cc.calls b true _ I.o).mono ?_);rintro e w' ⟨rfl,⟨nd,rfl⟩⟩;refine⟨_,rfl,?_⟩)|(go_at_call 37;(with_reducible refine(EJ.calls k c d j l m true _ D.o ?q').mono ?_);(case q'=>exact Cm.below HG.o (Ag));rintro e ca ⟨rfl,n⟩;replace HB:=Bw n;replace a:=a_ (Cr a.o n);(try clear n);obtain⟨aW,aX,aY,aZ,a0,a1,a2,aa,ab,ae,af,ag,ah,ai⟩:=DC a.o)|((with_reducible refine BQ (f:=38) rfl ?_);refine BW 29 TG #[.int .i64 d] ?_;(with_reducible refine(Cz.calls d A B _ J.o ?q').mono ?_);(case q'=>exact Cm.below HG.o (Ag));rintro e w' ⟨rfl,⟨nd,rfl⟩⟩;refine⟨_,rfl,?_⟩));go_ret;exact⟨C8,Ag⟩
   rw[Rz u]at H;have E:(c==1)=false:=Dr u;have G:(c != 1)=true:=RX.mpr u;obtain rfl:=CW H;go_enter Tryd.func19,Tryd.ntmps19;go_wp2_with(first|((with_reducible refine BV (N:=1) rfl ?_);refine Cy 1 (#[.int .i64 b,.int .i64 i,.int .i64 c,.int .i64 d,.int .i64 j,.int .i64 l,.string m]) 32 ?_;intro q hg cb g n;have a:=a_ (g);have p:=BD w hg;have o:=BD w hg;replace HB:=Bw n;clear n g hg;obtain⟨a3,a4,a5,a6,a7,a8,a9,aj,ak,al,an,ao,aq,ar⟩:=DC a.o)|((with_reducible refine BQ (f:=17) rfl ?_);refine BW 7 SN #[.int .i64 b] ?_;(with_reducible refine(Cc.calls b true _ I.o).mono ?_);rintro e w' ⟨rfl,⟨nd,rfl⟩⟩;refine⟨_,rfl,?_⟩)|(go_at_call 37;(with_reducible refine(EJ.calls k c d j l m true _ D.o ?q').mono ?_);(case q'=>exact Cm.below HG.o (Ag));rintro e cd ⟨rfl,n⟩;replace HB:=Bw n;replace a:=a_ (Cr a.o n);(try clear n);obtain⟨ba,bb,bc,bd,be,bf,bg,au,av,aw,ax,ay,az,aA⟩:=DC a.o)|((with_reducible refine BQ (f:=38) rfl ?_);refine BW 29 TG #[.int .i64 d] ?_;(with_reducible refine(Cz.calls d A B _ J.o ?q').mono ?_);(case q'=>exact Cm.below HG.o (Ag));rintro e w' ⟨rfl,⟨nd,rfl⟩⟩;refine⟨_,rfl,?_⟩));go_ret;exact⟨C8,Ag⟩
  replace x:=RE.mpr x;subst x;have H1:(some false)=some r:=by rw[Rz (show¬ (false=true) by decide)]at H;exact H
  clear H;have H:=H1;clear H1;obtain rfl:=CW H;go_enter Tryd.func19,Tryd.ntmps19;go_wp2_with(first|((with_reducible refine BV (N:=1) rfl ?_);refine Cy 1 (#[.int .i64 b,.int .i64 i,.int .i64 c,.int .i64 d,.int .i64 j,.int .i64 l,.string m]) 32 ?_;intro q hg cf g n;have a:=a_ (g);have p:=BD w hg;have o:=BD w hg;replace HB:=Bw n;clear n g hg;obtain⟨bh,bj,bk,bl,bm,bn,bo,aB,aC,aD,aE,aF,aG,aH⟩:=DC a.o)|((with_reducible refine BQ (f:=17) rfl ?_);refine BW 7 SN #[.int .i64 b] ?_;(with_reducible refine(Cc.calls b true _ I.o).mono ?_);rintro e w' ⟨rfl,⟨nd,rfl⟩⟩;refine⟨_,rfl,?_⟩)|(go_at_call 37;(with_reducible refine(EJ.calls k c d j l m false _ D.o ?q').mono ?_);(case q'=>exact Cm.below HG.o (Ag));rintro e cg ⟨rfl,n⟩;replace HB:=Bw n;replace a:=a_ (Cr a.o n);(try clear n)));go_ret;exact⟨C8,Ag⟩
 replace c3:=RE.mpr c3;subst c3;have H1:(some false)=some r:=by rw[Rz (show¬ (false=true) by decide)]at H;exact H
 clear H;have H:=H1;clear H1;obtain rfl:=CW H;go_enter Tryd.func19,Tryd.ntmps19;go_wp2_with(first|((with_reducible refine BV (N:=1) rfl ?_);refine Cy 1 (#[.int .i64 b,.int .i64 i,.int .i64 c,.int .i64 d,.int .i64 j,.int .i64 l,.string m]) 32 ?_;intro q hg cj g n;have a:=a_ (g);have p:=BD w hg;have o:=BD w hg;replace HB:=Bw n;clear n g hg;obtain⟨bp,bq,br,bu,bw,bx,bz,aI,aJ,aK,aL,aM,aN,aO⟩:=DC a.o)|((with_reducible refine BQ (f:=17) rfl ?_);refine BW 7 SN #[.int .i64 b] ?_;(with_reducible refine(Cc.calls b false _ I.o).mono ?_);rintro e w' ⟨rfl,⟨nd,rfl⟩⟩;refine⟨_,rfl,?_⟩));go_ret;exact⟨C8,Ag⟩
end Go.Proofs.YtlhlpfnljglhoaaDoor.P
namespace Go.Proofs.YtlhlpfnljglhoaaDoor.PL
open Go.RowKit Go.Proofs.YtlhlpfnljglhoaaDoor.P Go.Proofs.YtlhlpfnljglhoaaDoorW.PrintWords Go.Proofs.YtlhlpfnljglhoaaDoorW.Bb
theorem AR{α:Type}(a:α):Ev (λ_=>some a) a:=⟨0,λ_ _=>rfl⟩
theorem AF{α:Type}{c:Prop}[Decidable c]{f g:Nat->Option α}{r:α}(h:¬ c)(k:Ev g r):Ev (λn=>if c then f n else g n) r:=Ev.congr (λ_=>Rz h) k
theorem Al{α:Type}{c:Prop}[Decidable c]{f g:Nat->Option α}{r:α}(h:c)(k:Ev f r):Ev (λn=>if c then f n else g n) r:=Ev.congr (λ_=>Ry h) k
theorem EV(i:Int)(h0:0≤i)(h:i≤4611686018427387904):wrap64 (i+1)=i+1:=by unfold wrap64;omega
theorem Pd(i:Int)(h0:0≤i)(h:i+1≤9223372036854775807):wrap64 (i+1)=i+1:=by unfold wrap64;omega
def DT(a:Int):Prop:=-9223372036854775808≤a∧a≤9223372036854775807
def DP(a:Int):Bool:=decide (EO a≠0)&&decide (EO a≠1)
def E8(a:Int):Bool:=decide (1≤a)&&decide (a≤3)
theorem Hl(a b c:Int):Ar.f a b c=some (decide (b≤a)&&decide (a≤c)):=by
 unfold Ar.f;by_cases h:a≥b
 ·rw[Ry h];simp[h]
 rw[Rz h];simp[show¬ b≤a from h]
theorem HU(a:Int)(h:a<0∨37≤a):EO a=0:=by unfold EO;rw[Rz (by omega)]
theorem Lm:∀n:Nat,n<37->(decide (1≤Int.tdiv (n:Int) 10)&&decide (Int.tdiv (n:Int) 10≤3))=true->(decide (1≤Int.tmod (n:Int) 10)&&decide (Int.tmod (n:Int) 10≤6))=DP n:=by decide
theorem Ki:∀n:Nat,n<37->(decide (1≤Int.tdiv (n:Int) 10)&&decide (Int.tdiv (n:Int) 10≤3))=false->DP n=false:=by decide
theorem Mx:∀n:Nat,n<37->DP n=true->EO n-1=Int.tdiv (n:Int) 10:=by decide
theorem Ln:∀n:Nat,n<37->(decide (EO n≠0)&&decide (EO n-1=0))=E8 n:=by decide
theorem JG(a:Int)(h:DT a):wrap64 (Int.tdiv a 10)=Int.tdiv a 10:=by
 obtain⟨h1,b⟩:=h
 have:Int.tdiv a 10≤9223372036854775807∧-9223372036854775808≤Int.tdiv a 10:=by
  rcases Int.le_total 0 a with h0|h0
  ·rw[SD h0];omega
  have e:Int.tdiv a 10=-(Int.tdiv (-a) 10):=by rw[Int.neg_tdiv,Int.neg_neg]
  rw[e,SD (by omega)];omega
 unfold wrap64;omega
theorem Gb(a:Int)(h:DT a):Bk.f a=some (DP a):=by
 unfold Bk.f;rw[Hl,Hl,JG a h];simp only[Option.bind_some];by_cases hs:0≤a∧a<37
 ·obtain⟨n,rfl⟩:∃n:Nat,a=n:=⟨a.toNat,by omega⟩
  have d:n<37:=by omega
  cases c:(decide (1≤Int.tdiv (n:Int) 10)&&decide (Int.tdiv (n:Int) 10≤3))with
  | true=>rw[Ry rfl,Lm n d c]
  | false=>rw[Rz (by decide),Ki n d c]
 have k:DP a=false:=by unfold DP;rw[HU a (by omega)];rfl
 rw[k];rcases TL a 0 with h0|h0
 ·have e:Int.tdiv a 10=-(Int.tdiv (-a) 10):=by rw[Int.neg_tdiv,Int.neg_neg]
  have h1:Int.tdiv a 10≤0:=by rw[e,SD (by omega)];omega
  have j:decide (1≤Int.tdiv a 10)=false:=C9 (by omega);rw[j];simp
 have g:=SD (b:=10) h0;have i:Int.tmod a 10=a % 10:=TN h0;rw[g,i];by_cases h3:a / 10≤3
 ·have h4:decide (a % 10≤6)=false:=C9 (by omega);rw[h4];simp
 have h4:decide (a / 10≤3)=false:=C9 h3;rw[h4];simp
theorem Ho(a:Int):AP.f a=some (DP a):=by
 unfold AP.f Cz.f DP;simp only[Option.bind_some];by_cases h0:EO a=0
 ·rw[Ry h0];simp[h0]
 rw[Rz h0];by_cases h1:EO a=1
 ·simp[h1]
 simp[h0,h1];omega
theorem Hq(a:Int):Ce.f a=some (E8 a):=by
 unfold Ce.f Cz.f;simp only[Option.bind_some];by_cases hs:0≤a∧a<37
 ·obtain⟨n,rfl⟩:∃n:Nat,a=n:=⟨a.toNat,by omega⟩
  have:=Ln n (by omega);rw[<-this];by_cases h0:EO (n:Int)=0
  ·rw[Ry h0];simp[h0]
  rw[Rz h0];by_cases h1:EO (n:Int)-1=0 <;> simp[h0,h1]
 rw[Ry (HU a (by omega))];have:E8 a=false:=by unfold E8;simp;omega
 rw[this];simp
theorem Kg(a:Int):CB.f a=some (E8 a):=by unfold CB.f;rw[Hl];rfl
def Oh(a:Int):Bool:=E8 a || DP a
theorem Q7(a:Int)(h:DT a):Dh.f a=some (Oh a):=by unfold Dh.f Oh;rw[Kg,Gb a h];simp only[Option.bind_some];cases E8 a <;> simp
def Ge(u a:Int):Bool:=Oh u&&(decide (a=0) || DP a)
theorem Ow(u a:Int):CF.f u a=some (Ge u a):=by
 unfold CF.f Ge Oh;rw[Ho,Ho,Hq];simp only[Option.bind_some];by_cases h:a=0
 ·simp only[h,if_true];cases DP u <;> cases E8 u <;> simp
 simp only[h,if_false];cases DP u <;> cases E8 u <;> simp
def Ft(s:ByteArray)(i:Nat):Nat->Bool
 | 0=>true
 | n+1=>decide (97≤bt s i)&&decide (bt s i≤100)&&Ft s (i+1) n
def Fy(s:ByteArray):Bool:=Ft s 0 s.size&&decide (s.size≤4)
theorem MZ(s:ByteArray)(i:Int):0≤bt s i∧bt s i≤255:=by
 unfold bt;split
 ·rename_i h;have:=(s[i.toNat]'h).toNat_lt;omega
 omega
theorem L7(s:ByteArray)(hs:s.size≤9223372036854775807):∀(n:Nat) (i:Nat),i+n=s.size->Ev (λk=>Bz.l0 k s i) (Ft s i n&&decide (s.size≤4))
 | 0,i,h=>by
  refine Ev.step (f:=λ_=>some (decide ((s.size:Int)≤4))) (λk=>?_) ?_
  ·simp only[Bz.l0];rw[Rz (by omega)]
  ·have:decide ((s.size:Int)≤4)=(Ft s i 0&&decide (s.size≤4)):=by simp[Ft];omega
   rw[this];exact AR _
 | n+1,i,h=>by
  have hw:wrap64 (bt s i)=bt s i:=by have:=MZ s i;unfold wrap64;omega
  unfold Ft
  cases a:(decide (97≤bt s i)&&decide (bt s i≤100))with
  | true =>
   rw[RY]
   refine Ev.step (λk=>?_) (L7 s hs n (i+1) (by omega))
   simp only[Bz.l0]
   rw[Ry (by omega),Ry (by omega),hw,Hl,a,TB,Ry rfl,Pd i (by omega) (by omega)]
   rfl
  | false =>
   rw[Se,Se]
   refine Ev.step (f:=λ_=>some false) (λk=>?_) (AR _)
   simp only[Bz.l0]
   rw[Ry (by omega),Ry (by omega),hw,Hl,a,TB,Rz (by decide)]
theorem Lo(s:ByteArray)(hs:s.size≤9223372036854775807):Ev (λk=>Bz.f k s) (Fy s):=L7 s hs s.size 0 (by omega)
theorem KC(s:ByteArray)(hs:s.size≤9223372036854775807):∀(n:Nat) (i:Nat),i+n=s.size->Ev (λk=>Bq.l0 k s i) (Ft s i n)
 | 0,i,h=>by
  refine Ev.step (f:=λ_=>some true) (λk=>?_) (AR _)
  simp only[Bq.l0];rw[Rz (by omega)]
 | n+1,i,h=>by
  unfold Ft
  by_cases h1:bt s i<97
  ·have:decide (97≤bt s i)=false:=C9 (by omega)
   rw[this,Se,Se]
   refine Ev.step (f:=λ_=>some false) (λk=>?_) (AR _)
   simp only[Bq.l0]
   rw[Ry (by omega),Ry (by omega),Ry h1]
  ·by_cases a:bt s i>100
   ·have:decide (bt s i≤100)=false:=C9 (by omega)
    rw[this,Tb,Se]
    refine Ev.step (f:=λ_=>some false) (λk=>?_) (AR _)
    simp only[Bq.l0]
    rw[Ry (by omega),Ry (by omega),Rz h1,Ry a]
   ·have b:decide (97≤bt s i)=true:=BM (by omega)
    have c:decide (bt s i≤100)=true:=BM (by omega)
    rw[b,c,RY,RY]
    refine Ev.step (λk=>?_) (KC s hs n (i+1) (by omega))
    simp only[Bq.l0]
    rw[Ry (by omega),Ry (by omega),Rz h1,Rz a,Pd i (by omega) (by omega)]
    rfl
theorem J4(s:ByteArray)(hs:s.size≤9223372036854775807):Ev (λk=>Bq.f k s) (Fy s):=by
 unfold Bq.f Fy;by_cases h:(s.size:Int)>4
 ·refine Al h ?_;have:decide (s.size≤4)=false:=C9 (by omega);rw[this,Tb];exact AR _
 refine AF h ?_;have:decide (s.size≤4)=true:=BM (by omega);rw[this,Ua];exact KC s hs s.size 0 (by omega)
theorem KR(s:ByteArray)(h:s.toList.isEmpty=true):Fy s=true:=by
 have:s.size=0:=by
  have a:=List.isEmpty_iff.1 h;have h3:s.toList.length=s.size:=by rw[Go.ByteArray.toList_eq];exact TJ
  rw[<-h3,a];rfl
 unfold Fy;rw[this];rfl
def Km(k i u a:Int)(s:ByteArray):Bool :=
 DP i&&(if k=1 then Ge u a&&Fy s else if k=2 then decide (u=0)&&decide (a=0)&&Fy s else if k=3 then Ge u a&&s.toList.isEmpty else false)
theorem PT(k i u a:Int)(s:ByteArray)(hs:s.size≤9223372036854775807):Ev (λn=>EJ.f n k i u a s) (Km k i u a s):=by
 unfold EJ.f Ek.f Km;rw[Ho];simp only[Option.bind_some];cases DP i with
 | false=>simp only[Bool.false_eq_true,if_false,Bool.false_and];exact AR _
 | true =>
  simp only[if_true,Bool.true_and,Ow,Option.bind_some]
  by_cases h1:k=1
  ·simp only[h1,if_true]
   cases Ge u a with
   | true=>simp only[if_true,Bool.true_and];exact J4 s hs
   | false=>simp only[Bool.false_eq_true,if_false,Bool.false_and];exact AR _
  ·simp only[h1,if_false]
   by_cases b:k=2
   ·simp only[b,if_true]
    by_cases h3:u=0
    ·by_cases h4:a=0
     ·simp only[h3,h4,if_true,decide_true,Bool.true_and];exact J4 s hs
     ·simp only[h3,h4,if_true,if_false,decide_true,decide_false,Bool.true_and,Bool.false_and];exact AR _
    ·simp only[h3,if_false,decide_false,Bool.false_and];exact AR _
   ·simp only[b,if_false]
    by_cases h3:k=3
    ·simp only[h3,if_true]
     cases Ge u a with
     | true=>simp only[if_true,Bool.true_and];exact AR _
     | false=>simp only[Bool.false_eq_true,if_false,Bool.false_and];exact AR _
    ·simp only[h3,if_false];exact AR _
theorem O8(k i u a:Int)(s:ByteArray)(hi:DT i)(hu:DT u)(g:DT a)(hs:s.size≤9223372036854775807):Ev (λn=>Cf.f n k i u a s) (Km k i u a s):=by
 unfold Cf.f Km;rw[Gb i hi];simp only[Option.bind_some];cases DP i with
 | false =>
  simp only[Bool.false_eq_true,if_false,Bool.false_and]
  refine Ev.step (f:=λ_=>some false) (λn=>?_) (AR _)
  simp only[Cf.j0,if_true]
 | true =>
  simp only[if_true,Bool.true_and]
  refine Ev.bind (Lo s hs) ?_
  have j:(Oh u&&(decide (a=0) || DP a))=Ge u a:=rfl
  cases e:Fy s with
  | false =>
   have c:s.toList.isEmpty=false:=by
    cases he:s.toList.isEmpty with
    | false=>rfl
    | true=>rw[KR s he]at e;cases e
   refine Ev.step (f:=λ_=>some false) (λn=>?_) ?_
   ·simp only[Cf.j0,Bool.not_false,if_true]
   ·simp only[c,Bool.and_false,ite_self]
    exact AR _
  | true =>
   refine Ev.step (f:=λ_=>some (if k=1 then Ge u a&&true else if k=2 then decide (u=0)&&decide (a=0)&&true else if k=3 then Ge u a&&s.toList.isEmpty else false)) (λn=>?_) (AR _)
   simp only[Cf.j0,Bool.not_true,Bool.false_eq_true,if_false]
   rw[Q7 u hu,Gb a g]
   simp only[Option.bind_some,Bool.and_true]
   rw[<-j]
   have b:(s.toList==([]:List UInt8))=s.toList.isEmpty:=by cases s.toList <;> rfl
   rw[b]
   by_cases h1:k=1
   ·simp only[h1,if_true]
    by_cases h4:a=0
    ·simp only[h4,if_true,decide_true,Bool.true_or,Bool.and_true];cases Oh u <;> simp
    ·simp only[h4,if_false,decide_false,Bool.false_or];cases Oh u <;> simp
   ·simp only[h1,if_false]
    by_cases d:k=2
    ·simp only[d,if_true]
     by_cases h3:u=0
     ·simp[h3];by_cases h4:a=0 <;> simp[h4]
     ·simp[h3]
    ·simp only[d,if_false]
     by_cases h3:k=3
     ·simp only[h3,if_true]
      by_cases h4:a=0
      ·simp only[h4,if_true,decide_true,Bool.true_or,Bool.and_true];cases Oh u <;> simp
      ·simp only[h4,if_false,decide_false,Bool.false_or];cases Oh u <;> cases DP a <;> simp
     ·simp only[h3,if_false]
theorem G4(a:Int)(h:DP a=true):0≤a∧a<37:=by
 rcases TL a 0 with h0|h0
 ·unfold DP at h;rw[HU a (by omega)]at h;simp at h
 rcases TL a 37 with h1|h1
 ·exact⟨h0,h1⟩
 unfold DP at h;rw[HU a (by omega)]at h;simp at h
theorem Hy(k i u a:Int)(s:ByteArray)(h:Km k i u a s=true):DP i=true:=by unfold Km at h;simp only[Bool.and_eq_true]at h;exact h.1
def G9(r:Ba):Bool:=if E8 r.f0 then decide (r.f1=0)&&(r.f2.toList==([]:List UInt8))else DP r.f0&&(decide (1≤r.f1)&&(decide (r.f1≤18)&&Fy r.f2))
theorem Mj(s:ByteArray):Ev (λk=>Bq.f k s) (Fy s):=by
 by_cases hs:s.size≤9223372036854775807
 ·exact J4 s hs
 have e:Fy s=false:=by unfold Fy;simp;omega
 rw[e];refine Ev.congr (λk=>?_) (AR false);unfold Bq.f;exact Ry (by omega)
theorem QO(r:Ba):Ev (λk=>DI.f k r.f0 r.f1 r.f2) (G9 r):=by
 unfold DI.f G9;rw[Hq,Ho];simp only[Option.bind_some];cases E8 r.f0 with
 | true =>
  simp only[if_true]
  by_cases h:r.f1=0
  ·simp only[h,if_true,decide_true,Bool.true_and];exact AR _
  ·simp only[h,if_false,decide_false,Bool.false_and];exact AR _
 | false =>
  cases DP r.f0 with
  | false=>simp only[Bool.false_eq_true,if_false,Bool.false_and];exact AR _
  | true =>
   simp only[Bool.false_eq_true,if_false,if_true,Bool.true_and]
   by_cases h1:1≤r.f1
   ·refine Al h1 ?_
    by_cases a:r.f1≤18
    ·refine Al a ?_
     simp only[h1,a,decide_true,Bool.true_and]
     exact Ev.bind (Mj r.f2) (AR _)
    ·refine AF a ?_
     simp only[h1,a,decide_true,decide_false,Bool.true_and,Bool.false_and]
     exact AR _
   ·refine AF h1 ?_
    simp only[h1,decide_false,Bool.false_and]
    exact AR _
theorem ND(r:Ba)(hi:DT r.f0)(hs:r.f2.size≤9223372036854775807):Ev (λk=>Ed.f k r.f0 r.f1 r.f2) (G9 r):=by
 unfold Ed.f G9;rw[Kg,Gb _ hi,Hl];simp only[Option.bind_some];cases E8 r.f0 with
 | true =>
  simp only[if_true]
  by_cases h:r.f1=0
  ·simp only[h,if_true,decide_true,Bool.true_and];exact AR _
  ·simp only[h,if_false,decide_false,Bool.false_and];exact AR _
 | false =>
  cases DP r.f0 with
  | false=>simp only[Bool.false_eq_true,if_false,Bool.false_and];exact AR _
  | true =>
   simp only[Bool.false_eq_true,if_false,if_true,Bool.true_and]
   cases h:(decide (1≤r.f1)&&decide (r.f1≤18))with
   | true =>
    simp only[Bool.and_eq_true]at h
    rw[h.1,h.2]
    simp only[if_true,Bool.true_and]
    exact Ev.bind (Lo r.f2 hs) (AR _)
   | false =>
    rw[<-Bool.and_assoc,h]
    simp only[Bool.false_eq_true,if_false,Bool.false_and]
    exact AR _
end Go.Proofs.YtlhlpfnljglhoaaDoor.PL
namespace Go.Proofs.YtlhlpfnljglhoaaDoor.P
open Go.RowKit Go.Proofs.YtlhlpfnljglhoaaDoorW.PrintWords Go.Proofs.YtlhlpfnljglhoaaDoorW.Bb Go.Proofs.YtlhlpfnljglhoaaDoorW.Dm Go.Proofs.YtlhlpfnljglhoaaDoor.PL
def EP(seen:List Int)(roots depth:Int):List Ba->Bool
 | []=>decide (roots=3)
 | r::rest=>G9 r&&(decide (r.f0∉seen)&&(decide (r.f1≤depth+1) &&
   (if E8 r.f0 then decide (r.f0=roots+1)&&EP (r.f0::seen) (roots+1) r.f1 rest else EP (r.f0::seen) roots r.f1 rest)))
def JJ(l:List Ba):Bool:=EP [] 0 (-1) l
def E5.f(k:Nat)(l0:List Ba):Option Bool:=some (JJ l0)
def Gf(seen:List Int):Array Value:=((List.range 37).map λi:Nat=>Value.int .i64 (if(i:Int)∈seen then 1 else 0)).toArray
theorem I9(seen:List Int)(i:Nat)(hi:i<37):(Gf seen)[i]?=some (.int .i64 (if(i:Int)∈seen then 1 else 0)):=by simp[Gf,hi]
theorem Lq(seen:List Int)(i:Nat)(hi:i<37)(hs:(i:Int)∉seen):(Gf seen).setIfInBounds i (.int .i64 1)=Gf ((i:Int)::seen):=by
 unfold Gf;rw[List.setIfInBounds_toArray];congr 1;apply TY (by simp);intro k h1 b;simp only[List.getElem_set,List.getElem_map,List.getElem_range,List.mem_cons];by_cases a:i=k
 ·subst a;simp
 have:¬ ((k:Int)=(i:Int)):=λe=>a (by omega)
 rw[Rz a];simp[this]
theorem L1{r:Ba}(h:G9 r=true):0≤r.f0∧r.f0<37∧0≤r.f1∧r.f1≤18:=by
 unfold G9 at h;by_cases a:E8 r.f0=true
 ·rw[Ry a]at h;unfold E8 at a;simp only[Bool.and_eq_true,decide_eq_true_eq]at a h;omega
 rw[Rz a]at h;simp only[Bool.and_eq_true,decide_eq_true_eq]at h;have:=G4 _ h.1;omega
def N3(l0:List Ba)(r:Bool)(w:World)(ro a i:Value)(wr:World):Prop :=
 ∃(j roots depth:Int) (seen:List Int),0≤j∧j≤l0.length∧i=.int .i64 j∧ro=.int .i64 roots∧a=.int .i64 depth∧(0≤roots∧roots≤3)∧(-1≤depth∧depth≤18)∧Ac (EP seen roots depth (l0.drop j.toNat)=r) ∧
  Ac (wr.heap[w.heap.size]?=some (.cells (Gf seen) 66 (0,0)))∧Ac (Below w.heap.size w wr)
theorem E5.calls(k:Nat)(A0:Option Addr)(c0:Nat)(l0:List Ba)(r:Bool)(w:World)(K:Kd.C Dd w A0 l0.length l0)(av:l0.length≤c0)(h:E5.f k l0=some r)(hG:Cm w) :
  Calls Tryd.prog 18 #[.slice A0 l0.length c0] w λe w'=>e=.returned (.bool r)∧Below w.heap.size w w':=by
 have hlen:=K.2.1;have aa:=a_ K;have HG:=a_ hG;have HH:=a_ (CW h);clear K hG h;go_enter Tryd.func18,Tryd.ntmps18;go_wp2;go_loopw [4,5,10] (λro dp i wr=>N3 l0 r w ro dp i wr) (λ_ _ i _=>l0.length-(intOf i).toNat);case atStart=>exact⟨0,0,-1,[],Tl _,by omega,rfl,rfl,rfl,by omega,by omega,HH,⟨heap_alloc_new w (.cells (Gf []) 66)⟩,⟨Co w _⟩⟩
 obtain⟨j,roots,depth,seen,E,hj,rfl,rfl,rfl,Y,W,p,HT,HB⟩:=hrel;clear HH;by_cases u:j<l0.length
 ·have ae:decide (j<(l0.length:Int))=true:=BM u;obtain⟨ad,e,G,L,M⟩:=BZ aa.o j E u;cases e;replace G:=(Az HB.o G:)
  replace L:=(Az HB.o L:)
  replace M:=(Az HB.o M:)
  have hu:=SI;have Z:Ae l0 j=l0[j.toNat]'(by omega):=by unfold Ae;rw[RS,RD (by omega)];rfl
  have A:=RZ (l:=l0) (i:=j.toNat) (by omega);rw[<-Z]at A;have a:=p.o;rw[A]at a;clear p Z;generalize Ae l0 j=x at G L M A a;rw[show j.toNat+1=(j+1).toNat by omega]at A a;unfold EP at a;obtain⟨O,X⟩:=QO x;have q:=a_ (X O (RB _));have p1:=RA E;have q1:=RA u;have p:=a_ a;have aq:=a_ A;have P:=a_ (And.intro E (And.intro u (And.intro Y W)));have HL:=a_ (show w.heap.size<wr.heap.size from Av HT.o);have o:=a_ (FT HB.o (.cells #[.int .i64 x.f0,.int .i64 x.f1,.string x.f2] 68));have t:=a_ (EG HT.o (.cells #[.int .i64 x.f0,.int .i64 x.f1,.string x.f2] 68));clear E u A a X HB HT Y W;by_cases n:G9 x=true
  ·have hid:=L1 n;rw[n]at q;have a:=p.o;rw[n,RY]at a;clear p n;obtain⟨i,hi⟩:=Int.eq_ofNat_of_zero_le hid.1;have B:i<37:=by omega
   have ah:w.heap.size≠wr.heap.size:=by have:=HL.o;omega
   have al:wr.heap.size≠w.heap.size:=λe=>ah e.symm
   have i0:0≤(i:Int):=by omega
   have i37:(i:Int)<37:=by omega
   have aw:0≤x.f1:=hid.2.2.1;have ak:x.f1≤18:=hid.2.2.2;have ai:-1≤depth:=P.o.2.2.2.1;have aj:depth≤18:=P.o.2.2.2.2;rw[hi]at a q o t G;have ar:=a_ hi;clear hi hid;by_cases hs:(i:Int)∈seen
   ·have z:=a_ (show(Gf seen)[i]?=some (.int .i64 1) by rw[I9 seen i B,Ry hs]);have hr:r=false:=by rw[<-a,C9 (λh=>h hs)];rfl
    clear a hs;subst hr;go_wp2_with(go_at_call 35;refine(DI.calls O (i:Int) x.f1 x.f2 true _ q.o (HG.o.below o.o)).mono ?_;rintro e W2 ⟨rfl,m⟩;have g:=a_ (IY o.o m);have c:=a_ (Ao t.o m);have d:=a_ (Ao (EW wr _) m);clear m;have d0:=(Ax d.o 0).trans rfl;have d1:=(Ax d.o 1).trans rfl;have t0:=(Ax c.o i).trans z.o;have tf:=BU c.o i);go_ret;exact⟨rfl,g.o⟩
   have z:=a_ (show(Gf seen)[i]?=some (.int .i64 0) by rw[I9 seen i B,Rz hs]);have U:=a_ (Lq seen i B hs);rw[BM hs,RY]at a;clear hs;by_cases v:x.f1≤depth+1
   ·have af:decide (depth+1<x.f1)=false:=C9 (by omega);rw[BM v,RY]at a;clear v;by_cases b:E8 (i:Int)=true
    ·have y:=a_ (Hq (i:Int));rw[b]at y;rw[Ry b]at a;have ax:1≤i∧i≤3:=by unfold E8 at b;simp at b;omega
     have an:0≤roots:=P.o.2.2.1.1;have ao:roots≤3:=P.o.2.2.1.2;clear b;by_cases J:(i:Int)=roots+1
     ·have ab:((i:Int) != roots+1)=false:=bne_eq_false_iff_eq.2 J;rw[BM J,RY]at a;have HN:=a_ J;have p:=a_ a;clear J a;go_wp2_with(first|(go_at_call 35;refine(DI.calls O (i:Int) x.f1 x.f2 true _ q.o (HG.o.below o.o)).mono ?_;rintro e W2 ⟨rfl,m⟩;have g:=a_ (IY o.o m);have c:=a_ (Ao t.o m);have d:=a_ (Ao (EW wr _) m);clear m;have d0:=(Ax d.o 0).trans rfl;have d1:=(Ax d.o 1).trans rfl;have t0:=(Ax c.o i).trans z.o;have tf:=BU c.o i)|(go_at_call 36;refine(Ce.calls (i:Int) true _ y.o (HG.o.below (DK g.o (RB _)))).mono ?_;rintro e w' ⟨rfl,⟨nd,rfl⟩⟩));have ag:=P.o;have D:wrap64 (j+1)=j+1:=by unfold wrap64;omega
      refine⟨⟨j+1,roots+1,x.f1,(i:Int)::seen,by omega,by omega,by first|rfl|rw[D],rfl,rfl,by have:=HN.o;omega,by omega,p,⟨?_⟩,⟨Au (DK g.o (RB _)) _⟩⟩,?_⟩
      ·have:=Fm c.o i (.int .i64 1);rw[U.o]at this;exact this
      first|(show l0.length-(j+1).toNat<l0.length-j.toNat;omega)|(rw[D];show l0.length-(j+1).toNat<l0.length-j.toNat;omega)
     have ab:((i:Int) != roots+1)=true:=RX.2 J;rw[C9 J,Se]at a;subst a;clear J;go_wp2_with(first|(go_at_call 35;refine(DI.calls O (i:Int) x.f1 x.f2 true _ q.o (HG.o.below o.o)).mono ?_;rintro e W2 ⟨rfl,m⟩;have g:=a_ (IY o.o m);have c:=a_ (Ao t.o m);have d:=a_ (Ao (EW wr _) m);clear m;have d0:=(Ax d.o 0).trans rfl;have d1:=(Ax d.o 1).trans rfl;have t0:=(Ax c.o i).trans z.o;have tf:=BU c.o i)|(go_at_call 36;refine(Ce.calls (i:Int) true _ y.o (HG.o.below (DK g.o (RB _)))).mono ?_;rintro e w' ⟨rfl,⟨nd,rfl⟩⟩));go_ret;exact⟨rfl,Au (DK g.o (RB _)) _⟩
    have b:E8 (i:Int)=false:=by simpa using b
    have y:=a_ (Hq (i:Int));rw[b]at y;rw[Rz (by rw[b];decide)]at a;have p:=a_ a;clear b a;go_wp2_with(first|(go_at_call 35;refine(DI.calls O (i:Int) x.f1 x.f2 true _ q.o (HG.o.below o.o)).mono ?_;rintro e W2 ⟨rfl,m⟩;have g:=a_ (IY o.o m);have c:=a_ (Ao t.o m);have d:=a_ (Ao (EW wr _) m);clear m;have d0:=(Ax d.o 0).trans rfl;have d1:=(Ax d.o 1).trans rfl;have t0:=(Ax c.o i).trans z.o;have tf:=BU c.o i)|(go_at_call 36;refine(Ce.calls (i:Int) false _ y.o (HG.o.below (DK g.o (RB _)))).mono ?_;rintro e w' ⟨rfl,⟨nd,rfl⟩⟩));have ag:=P.o;have D:wrap64 (j+1)=j+1:=by unfold wrap64;omega
    refine⟨⟨j+1,roots,x.f1,(i:Int)::seen,by omega,by omega,by first|rfl|rw[D],rfl,rfl,by omega,by omega,p,⟨?_⟩,⟨Au (DK g.o (RB _)) _⟩⟩,?_⟩
    ·have:=Fm c.o i (.int .i64 1);rw[U.o]at this;exact this
    first|(show l0.length-(j+1).toNat<l0.length-j.toNat;omega)|(rw[D];show l0.length-(j+1).toNat<l0.length-j.toNat;omega)
   have af:decide (depth+1<x.f1)=true:=BM (by omega);rw[C9 v,Se]at a;subst a;clear v;go_wp2_with(go_at_call 35;refine(DI.calls O (i:Int) x.f1 x.f2 true _ q.o (HG.o.below o.o)).mono ?_;rintro e W2 ⟨rfl,m⟩;have g:=a_ (IY o.o m);have c:=a_ (Ao t.o m);have d:=a_ (Ao (EW wr _) m);clear m;have d0:=(Ax d.o 0).trans rfl;have d1:=(Ax d.o 1).trans rfl;have t0:=(Ax c.o i).trans z.o;have tf:=BU c.o i);go_ret;exact⟨rfl,g.o⟩
  have n:G9 x=false:=by simpa using n
  rw[n]at q;have a:=p.o;rw[n,Se]at a;subst a;clear n p;go_wp2_with(go_at_call 35;refine(DI.calls O x.f0 x.f1 x.f2 false _ q.o (HG.o.below o.o)).mono ?_;rintro e W2 ⟨rfl,m⟩;have g:=a_ (IY o.o m);have c:=a_ (Ao t.o m);have d:=a_ (Ao (EW wr _) m);clear m;have d0:=(Ax d.o 0).trans rfl;have d1:=(Ax d.o 1).trans rfl);go_ret;exact⟨rfl,g.o⟩
 have ae:decide (j<(l0.length:Int))=false:=C9 u;have a:=p.o;rw[Sb (by omega)]at a;unfold EP at a;have I:=a_ a;clear a p u;by_cases h3:roots=3
 ·subst h3;go_wp2;go_ret;exact⟨by rw[<-I.o];rfl,HB.o⟩
 have au:(roots==3)=false:=Sx.2 h3;have T:=a_ (C9 h3);clear h3;go_wp2;go_ret;exact⟨by rw[<-I.o,T.o];rfl,HB.o⟩
end Go.Proofs.YtlhlpfnljglhoaaDoor.P
namespace Go.Proofs.YtlhlpfnljglhoaaDoor.P
open Go.RowKit Go.Proofs.YtlhlpfnljglhoaaDoorW.PrintWords Go.Proofs.YtlhlpfnljglhoaaDoorW.Bb
mutual
def Am.j0:Nat->Bool->Int->Int->List (Ba)->List (AQ)->Int->Int->Option (Bool)
 | 0,_,_,_,_,_,_,_=>none
 | k+1,i,e,c,g,d,a,b=>if i=true then(some false)else(if a<0 then(Am.j1 k true e c g d a b)else(if a>c then(Am.j1 k true e c g d a b)else(if(d.length:Int)>(wrap64 (40-a))then(Am.j1 k true e c g d a b)else(if b<0 then(Am.j1 k true e c g d a b)else(Am.j1 k (decide (b>6)) e c g d a b)))))
def Am.j1:Nat->Bool->Int->Int->List (Ba)->List (AQ)->Int->Int->Option (Bool)
 | 0,_,_,_,_,_,_,_=>none
 | k+1,i,b,c,d,a,e,g=>if i=true then(some false)else(Am.l0 k a (a.length:Int) 0 b c d a e g)
def Am.l0:Nat->List (AQ)->Int->Int->Int->Int->List (Ba)->List (AQ)->Int->Int->Option (Bool)
 | 0,_,_,_,_,_,_,_,_,_=>none
 | k+1,b,l,a,c,e,g,i,d,j=>if a<l then(if 0≤a then(if a<(b.length:Int)then((CD.f k ((Aa b a).f0) ((Aa b a).f1) ((Aa b a).f2.f0) ((Aa b a).f2.f1) ((Aa b a).f2.f2) ((Aa b a).f2.f3) ((Aa b a).f2.f4)).bind λm=>(if m=true then(if((Aa b a).f0)=c then(Am.j3 k b l a (((Aa b a).f1) != (wrap64 ((wrap64 (d+a))+1))) c e g i d j ((Aa b a).f0) ((Aa b a).f1) ((Aa b a).f2.f0) ((Aa b a).f2.f1) ((Aa b a).f2.f2) ((Aa b a).f2.f3) ((Aa b a).f2.f4))else(Am.j3 k b l a true c e g i d j ((Aa b a).f0) ((Aa b a).f1) ((Aa b a).f2.f0) ((Aa b a).f2.f1) ((Aa b a).f2.f2) ((Aa b a).f2.f3) ((Aa b a).f2.f4)))else(Am.j3 k b l a true c e g i d j ((Aa b a).f0) ((Aa b a).f1) ((Aa b a).f2.f0) ((Aa b a).f2.f1) ((Aa b a).f2.f2) ((Aa b a).f2.f3) ((Aa b a).f2.f4))))else(none))else(none))else(some true)
def Am.j3:Nat->List (AQ)->Int->Int->Bool->Int->Int->List (Ba)->List (AQ)->Int->Int->Int->Int->Int->Int->Int->Int->ByteArray->Option (Bool)
 | 0,_,_,_,_,_,_,_,_,_,_,_,_,_,_,_,_,_=>none
 | k+1,l,m,n,u,a,c,d,e,g,b,o,p,i,j,q,r,t=>if u=true then(some false)else(if i=1 then(if j>(wrap64 ((wrap64 (10*a))+b))then(some false)else(Am.l0 k l m (wrap64 (n+1)) a c d e g b))else(Am.l0 k l m (wrap64 (n+1)) a c d e g b))
end
def Am.f(k:Nat)(b:Int)(a:Int)(c:List (Ba))(g:List (AQ))(d:Int)(e:Int):Option (Bool):=(Cc.f b).bind λi=>(if i=true then(if a<0 then(Am.j0 k true b a c g d e)else(if a>40 then(Am.j0 k true b a c g d e)else((E5.f k c).bind λj=>(Am.j0 k (!j) b a c g d e))))else(Am.j0 k true b a c g d e))
theorem Am.calls(k:Nat)(d:Int)(j:Int)(u:Option Addr)(v:Nat)(m:List (Ba))(Z:Option Addr)(x:Nat)(b:List (AQ))(i:Int)(l:Int)(r:Bool)(w:World)(cY:Kd.C Dd w u m.length m)(cW:m.length≤v)(cZ:Kd.C Ck w Z b.length b)(cX:b.length≤x)(h:Am.f k d j m b i l=some r)(hG:Cm w) :
  Calls Tryd.prog 6 #[.agg #[.int .i64 d,.int .i64 j,.slice u m.length v,.slice Z b.length x,.int .i64 i,.int .i64 l]] w λe w'=>e=.returned (.bool r)∧Below w.heap.size w w':=by
 have hh:=RP;have hj:=Sk;have df:=a_ cY;have dd:=a_ cW;clear cY cW;have dg:=a_ cZ;have fC:=a_ cX;clear cZ cX;have HB:=a_ (RG w.heap.size w);have HG:=a_ hG;clear hG;unfold Am.f at h;have H:=h;clear h;have de:=a_ H;clear H;go_enter Tryd.func6,Tryd.ntmps6;go_upto_region 1 with(first|((with_reducible refine BV (N:=1) rfl ?_);refine Cy 1 (#[.int .i64 d,.int .i64 j,.slice u m.length v,.slice Z b.length x,.int .i64 i,.int .i64 l]) 26 ?_;intro t hg w3 aO I;have c:=a_ (aO);have fA:=BD w hg;have fy:=BD w hg;replace HB:=Bw I;clear I aO hg))
 (try simp only[Act.put,List.setIfInBounds_toArray,List.set_cons_zero,List.set_cons_succ]);go_cut [24] (λha wc=>∃(kq:Nat) (aL:Bool),ha=.bool aL∧Ac (Am.j0 kq aL d j m b i l=some r)∧Ac (kq≤k)∧Ac (wc.heap[t]?=some (.cells #[.int .i64 d,.int .i64 j,(.slice u m.length v),(.slice Z b.length x),.int .i64 i,.int .i64 l] 26 (0,0)))∧Ac (Below w.heap.size w wc))
 case first =>
  have H:=de.o;clear de;replace H:=BR H;obtain⟨fv,ft,H⟩:=H;try dsimp only at H
  have A4:=a_ ft;clear ft;by_cases c5:fv=true
  ·subst c5;have H1:(if j<0 then(Am.j0 k true d j m b i l)else(if j>40 then(Am.j0 k true d j m b i l)else((E5.f k m).bind λcz=>(Am.j0 k (!cz) d j m b i l))))=some r:=by rw[Ry rfl]at H;exact H
   clear H;have H:=H1;clear H1;by_cases c6:j<0
   ·rw[Ry c6]at H;have A:decide (j<0)=true:=BM c6;clear c6;(first|rw[A]|(simp only[BJ,BP];rw[A])|skip);have z:=a_ H;clear H;obtain⟨cg,cj,ck,cl,cm,cn,bX,bY,bZ,b6,b7,b8⟩:=BT c.o;go_wp2_with(first|((with_reducible refine BQ (f:=17) rfl ?_);refine BW 7 SN #[.int .i64 d] ?_;(with_reducible refine(Cc.calls d true _ A4.o).mono ?_);rintro e w' ⟨rfl,⟨nd,rfl⟩⟩;refine⟨_,rfl,?_⟩));go_meet
    exact⟨_,(true),(CA),z,⟨by first|omega|exact RB _⟩,⟨Bc c.o⟩,⟨Ag⟩⟩
   rw[Rz c6]at H;have A:decide (j<0)=false:=C9 c6;clear c6;(first|rw[A]|(simp only[BJ,BP];rw[A])|skip);by_cases c8:j>40
   ·rw[Ry c8]at H;have aN:decide (40<j)=true:=BM c8;clear c8;have z:=a_ H;clear H;obtain⟨cp,cq,cr,ct,cu,cv,b9,b_,ca,cb,cd,cf⟩:=BT c.o;go_wp2_with(first|((with_reducible refine BQ (f:=17) rfl ?_);refine BW 7 SN #[.int .i64 d] ?_;(with_reducible refine(Cc.calls d true _ A4.o).mono ?_);rintro e w' ⟨rfl,⟨nd,rfl⟩⟩;refine⟨_,rfl,?_⟩));go_meet
    exact⟨_,(true),(CA),z,⟨by first|omega|exact RB _⟩,⟨Bc c.o⟩,⟨Ag⟩⟩
   rw[Rz c8]at H;have aN:decide (40<j)=false:=C9 c8;clear c8;replace H:=BR H;obtain⟨cz,da,H⟩:=H;try dsimp only at H
   have fx:=a_ da;clear da;have z:=a_ H;clear H;obtain⟨aq,ar,au,av,aw,ax,aa,ab,ae,af,ag,ah⟩:=BT c.o;go_wp2_with(first|((with_reducible refine BQ (f:=17) rfl ?_);refine BW 7 SN #[.int .i64 d] ?_;(with_reducible refine(Cc.calls d true _ A4.o).mono ?_);rintro e w' ⟨rfl,⟨nd,rfl⟩⟩;refine⟨_,rfl,?_⟩)|(go_at_call 18;(with_reducible refine(E5.calls k _ _ m cz _ ?q' ?z' fx.o ?y').mono ?_);(case q'=>repeat(first|exact(Kd.Bu df.o (Ag))|(with_reducible refine Kd.C_alloc ?_ _)|(with_reducible refine Kd.B_ ?_ _)|(with_reducible refine Kd.C_drew ?_)));(case z'=>exact dd.o);(case y'=>exact Cm.below HG.o (Ag));rintro e hk ⟨rfl,I⟩;replace HB:=Bw I;replace c:=a_ (Cr c.o I);(try clear I)));go_meet
   exact⟨_,(!cz),(CA),z,⟨by first|omega|exact RB _⟩,⟨Bc c.o⟩,⟨Ag⟩⟩
  replace c5:=RE.mpr c5;subst c5;have H1:(Am.j0 k true d j m b i l)=some r:=by rw[Rz (show¬ (false=true) by decide)]at H;exact H
  clear H;have H:=H1;clear H1;have z:=a_ H;clear H;obtain⟨ay,az,aA,aB,aC,aD,ai,aj,ak,al,an,ao⟩:=BT c.o;go_wp2_with(first|((with_reducible refine BQ (f:=17) rfl ?_);refine BW 7 SN #[.int .i64 d] ?_;(with_reducible refine(Cc.calls d false _ A4.o).mono ?_);rintro e w' ⟨rfl,⟨nd,rfl⟩⟩;refine⟨_,rfl,?_⟩));go_meet
  exact⟨_,(true),(CA),z,⟨by first|omega|exact RB _⟩,⟨Bc c.o⟩,⟨Ag⟩⟩
 clear de;try clear c1
 try clear c5
 try clear c6
 try clear A
 try clear c8
 try clear aN
 try clear aq ar au av aw ax aa ab ae af ag ah
 try clear ay az aA aB aC aD ai aj ak al an ao
 try clear cg cj ck cl cm cn bX bY bZ b6 b7 b8
 try clear cp cq cr ct cu cv b9 b_ ca cb cd cf
 obtain⟨kq,aL,rfl,HA,G,c,HB⟩:=hcut;cases kq with
 | zero=>exact absurd HA.o (by simp[Am.j0])
 | succ cC =>
  have H:=HA.o
  clear HA
  simp only[Am.j0]at H
  by_cases bT:aL=true
  ·subst bT
   have H1:(some false)=some r:=by rw[Ry rfl]at H;exact H
   clear H
   have H:=H1
   clear H1
   obtain rfl:=CW H
   go_wp2
   go_ret
   exact⟨C8,Ag⟩
  ·replace bT:=RE.mpr bT
   subst bT
   have H1:(if i<0 then(Am.j1 cC true d j m b i l)else(if i>j then(Am.j1 cC true d j m b i l)else(if(b.length:Int)>(wrap64 (40-i))then(Am.j1 cC true d j m b i l)else(if l<0 then(Am.j1 cC true d j m b i l)else(Am.j1 cC (decide (l>6)) d j m b i l)))))=some r:=by rw[Rz (show¬ (false=true) by decide)]at H;exact H
   clear H
   have H:=H1
   clear H1
   have cD:=a_ H
   clear H
   go_upto_region 3 with(fail)
   go_cut [53] (λhc wc=>∃(kq:Nat) (J:Bool),hc=.bool J∧Ac (Am.j1 kq J d j m b i l=some r)∧Ac (kq≤cC)∧Ac (wc.heap[t]?=some (.cells #[.int .i64 d,.int .i64 j,(.slice u m.length v),(.slice Z b.length x),.int .i64 i,.int .i64 l] 26 (0,0)))∧Ac (Below w.heap.size w wc))
   case first =>
    have H:=cD.o
    clear cD
    by_cases aE:i<0
    ·rw[Ry aE]at H
     have y:decide (i<0)=true:=BM aE
     clear aE
     (first|rw[y]|(simp only[BJ,BP];rw[y])|skip)
     have z:=a_ H
     clear H
     obtain⟨bl,bm,bn,bo,bp,bq,aQ,aR,aS,aT,aU,aV⟩:=BT (W:=wc) c.o
     go_wp2
     go_meet
     case rel=>exact⟨_,(true),(CA),z,⟨by have:=G.o;first|omega|exact RB _⟩,⟨Bc c.o⟩,⟨Ag⟩⟩
    ·rw[Rz aE]at H
     have y:decide (i<0)=false:=C9 aE
     clear aE
     (first|rw[y]|(simp only[BJ,BP];rw[y])|skip)
     by_cases aF:i>j
     ·rw[Ry aF]at H
      have aG:decide (j<i)=true:=BM aF
      clear aF
      have z:=a_ H
      clear H
      obtain⟨br,bu,bw,bx,bz,bA,aW,aX,aY,aZ,a0,a1⟩:=BT (W:=wc) c.o
      go_wp2
      go_meet
      case rel=>exact⟨_,(true),(CA),z,⟨by have:=G.o;first|omega|exact RB _⟩,⟨Bc c.o⟩,⟨Ag⟩⟩
     ·rw[Rz aF]at H
      have aG:decide (j<i)=false:=C9 aF
      clear aF
      by_cases aH:(b.length:Int)>(wrap64 (40-i))
      ·rw[Ry aH]at H
       have aI:decide ((wrap64 (40-i))<(b.length:Int))=true:=BM aH
       clear aH
       have z:=a_ H
       clear H
       obtain⟨bB,bC,bD,bE,bF,bG,a2,a3,a4,a5,a6,a7⟩:=BT (W:=wc) c.o
       go_wp2
       go_meet
       case rel=>exact⟨_,(true),(CA),z,⟨by have:=G.o;first|omega|exact RB _⟩,⟨Bc c.o⟩,⟨Ag⟩⟩
      ·rw[Rz aH]at H
       have aI:decide ((wrap64 (40-i))<(b.length:Int))=false:=C9 aH
       clear aH
       by_cases aJ:l<0
       ·rw[Ry aJ]at H
        have aK:decide (l<0)=true:=BM aJ
        clear aJ
        have z:=a_ H
        clear H
        obtain⟨bH,bI,bJ,bK,bL,bM,a8,a9,ba,bb,bc,bd⟩:=BT (W:=wc) c.o
        go_wp2
        go_meet
        case rel=>exact⟨_,(true),(CA),z,⟨by have:=G.o;first|omega|exact RB _⟩,⟨Bc c.o⟩,⟨Ag⟩⟩
       ·rw[Rz aJ]at H
        have aK:decide (l<0)=false:=C9 aJ
        clear aJ
        have z:=a_ H
        clear H
        obtain⟨bN,bO,bP,bQ,bR,bS,be,bf,bg,bh,bj,bk⟩:=BT (W:=wc) c.o
        go_wp2
        go_meet
        case rel=>exact⟨_,(decide (l>6)),(CA),z,⟨by have:=G.o;first|omega|exact RB _⟩,⟨Bc c.o⟩,⟨Ag⟩⟩
   case rest =>
    clear cD
    try clear c5
    try clear c6
    try clear A
    try clear c8
    try clear aN
    try clear bT
    try clear aE
    try clear y
    try clear aF
    try clear aG
    try clear aH
    try clear aI
    try clear aJ
    try clear aK
    try clear aq ar au av aw ax aa ab ae af ag ah
    try clear ay az aA aB aC aD ai aj ak al an ao
    try clear bl bm bn bo bp bq aQ aR aS aT aU aV
    try clear br bu bw bx bz bA aW aX aY aZ a0 a1
    try clear bB bC bD bE bF bG a2 a3 a4 a5 a6 a7
    try clear bH bI bJ bK bL bM a8 a9 ba bb bc bd
    try clear bN bO bP bQ bR bS be bf bg bh bj bk
    try clear cg cj ck cl cm cn bX bY bZ b6 b7 b8
    try clear cp cq cr ct cu cv b9 b_ ca cb cd cf
    obtain⟨kq,J,rfl,HA,L,c,HB⟩:=hcut
    cases kq with
    | zero=>exact absurd HA.o (by simp[Am.j1])
    | succ c0 =>
     have H:=HA.o
     clear HA
     simp only[Am.j1]at H
     by_cases cA:J=true
     ·subst cA
      have H1:(some false)=some r:=by rw[Ry rfl]at H;exact H
      clear H
      have H:=H1
      clear H1
      obtain rfl:=CW H
      go_wp2
      go_ret
      exact⟨C8,Ag⟩
     ·replace cA:=RE.mpr cA
      subst cA
      have H1:(Am.l0 c0 b (b.length:Int) 0 d j m b i l)=some r:=by rw[Rz (show¬ (false=true) by decide)]at H;exact H
      clear H
      have H:=H1
      clear H1
      have z:=a_ H
      clear H
      obtain⟨cL,cM,cN,cO,cP,cQ,cF,cG,cH,cI,cJ,cK⟩:=BT (W:=wc) c.o
      go_wp2
      go_loopg [57] c0 (λkq hd w'=>∃(a:Int),hd=.int .i64 a∧Ac (Am.l0 kq b (b.length:Int) a d j m b i l=some r)∧Ac (kq≤c0)∧Ac (w'.heap[t]?=some (.cells #[.int .i64 d,.int .i64 j,(.slice u m.length v),(.slice Z b.length x),.int .i64 i,.int .i64 l] 26 (0,0)))∧Ac (Below w.heap.size w w'))
      case atStart=>exact⟨(0),(CA),z,⟨RB _⟩,⟨Bc c.o⟩,⟨Ag⟩⟩
      case round =>
       clear z
       try clear c5
       try clear c6
       try clear A
       try clear c8
       try clear aN
       try clear bT
       try clear aE
       try clear y
       try clear aF
       try clear aG
       try clear aH
       try clear aI
       try clear aJ
       try clear aK
       try clear cA
       try clear aq ar au av aw ax aa ab ae af ag ah
       try clear ay az aA aB aC aD ai aj ak al an ao
       try clear bl bm bn bo bp bq aQ aR aS aT aU aV
       try clear br bu bw bx bz bA aW aX aY aZ a0 a1
       try clear bB bC bD bE bF bG a2 a3 a4 a5 a6 a7
       try clear bH bI bJ bK bL bM a8 a9 ba bb bc bd
       try clear bN bO bP bQ bR bS be bf bg bh bj bk
       try clear cL cM cN cO cP cQ cF cG cH cI cJ cK
       try clear cg cj ck cl cm cn bX bY bZ b6 b7 b8
       try clear cp cq cr ct cu cv b9 b_ ca cb cd cf
       obtain⟨a,rfl,HA,aP,c,HB⟩:=hrel
       cases gk with
       | zero=>exact absurd HA.o (by simp[Am.l0])
       | succ k3 =>
        have H:=HA.o
        clear HA
        simp only[Am.l0]at H
        by_cases bU:a<(b.length:Int)
        ·rw[Ry bU]at H
         have cR:decide (a<(b.length:Int))=true:=BM bU
         clear bU
         by_cases cS:0≤a
         ·rw[Ry cS]at H
          have fl:decide (0≤a)=true:=BM cS
          clear cS
          by_cases cT:a<(b.length:Int)
          ·rw[Ry cT]at H
           have fm:decide (a<(b.length:Int))=true:=BM cT
           clear cT
           have cE:=a_ H
           clear H
           have cx:0≤(a:Int):=Bv
           have cy:a<(b.length:Int):=Bv
           obtain⟨B,fu,M,O,P,T,U,X,Y⟩:=CQ dg.o a cx cy
           cases fu
           replace M:=(Az HB.o M:)
           replace O:=(Az HB.o O:)
           replace P:=(Az HB.o P:)
           replace T:=(Az HB.o T:)
           replace U:=(Az HB.o U:)
           replace X:=(Az HB.o X:)
           replace Y:=(Az HB.o Y:)
           replace cx:=RA cx
           replace cy:=RA cy
           go_upto_region 8 with(first|((with_reducible refine BV (N:=4) rfl ?_);refine Cy 4 (#[.int .i64 0,.int .i64 0,.int .i64 0,.int .i64 0,.int .i64 0,.int .i64 0,.string (⟨#[]⟩:ByteArray)]) 32 ?_;intro E hg hn aO I;have p:=a_ (aO);have fB:=BD w hg;have fz:=BD w hg;have n:=a_ ((by rw[hg];exact RN (Av (g:=t) (o:=.cells #[.int .i64 d,.int .i64 j,.slice u m.length v,.slice (some B) b.length x,.int .i64 i,.int .i64 l] 26 (0,0)) (Bc c.o)):t≠E));have q:=a_ ((by rw[hg];exact RM (Av (g:=t) (o:=.cells #[.int .i64 d,.int .i64 j,.slice u m.length v,.slice (some B) b.length x,.int .i64 i,.int .i64 l] 26 (0,0)) (Bc c.o)):E≠t));replace c:=a_ (Cr c.o I);replace HB:=Bw I;clear I aO hg;have gX:=q.o;have g4:=n.o;obtain⟨ep,er,et,eu,ev,ew,ey,dh,di,dj,dk,dm,dn,dp⟩:=DC p.o))
           (try simp only[Act.put,List.setIfInBounds_toArray,List.set_cons_zero,List.set_cons_succ])
           go_cut [81] (λhf wc=>∃(kq:Nat) (K:Bool),hf=.bool K∧Ac (Am.j3 kq b (b.length:Int) a K d j m b i l ((Aa b a).f0) ((Aa b a).f1) ((Aa b a).f2.f0) ((Aa b a).f2.f1) ((Aa b a).f2.f2) ((Aa b a).f2.f3) ((Aa b a).f2.f4)=some r)∧Ac (kq≤k3)∧Ac (wc.heap[t]?=some (.cells #[.int .i64 d,.int .i64 j,(.slice u m.length v),(.slice (some B) b.length x),.int .i64 i,.int .i64 l] 26 (0,0)))∧Ac (wc.heap[E]?=some (.cells #[.int .i64 ((Aa b a).f0),.int .i64 ((Aa b a).f1),.int .i64 ((Aa b a).f2.f0),.int .i64 ((Aa b a).f2.f1),.int .i64 ((Aa b a).f2.f2),.int .i64 ((Aa b a).f2.f3),.string ((Aa b a).f2.f4)] 32 (0,0)))∧Ac (Below w.heap.size w wc))
           case first =>
            have H:=cE.o
            clear cE
            replace H:=BR H
            obtain⟨fw,db,H⟩:=H
            try dsimp only at H
            have dc:=a_ db
            clear db
            by_cases cU:fw=true
            ·subst cU
             have H1:(if((Aa b a).f0)=d then(Am.j3 k3 b (b.length:Int) a (((Aa b a).f1) != (wrap64 ((wrap64 (i+a))+1))) d j m b i l ((Aa b a).f0) ((Aa b a).f1) ((Aa b a).f2.f0) ((Aa b a).f2.f1) ((Aa b a).f2.f2) ((Aa b a).f2.f3) ((Aa b a).f2.f4))else(Am.j3 k3 b (b.length:Int) a true d j m b i l ((Aa b a).f0) ((Aa b a).f1) ((Aa b a).f2.f0) ((Aa b a).f2.f1) ((Aa b a).f2.f2) ((Aa b a).f2.f3) ((Aa b a).f2.f4)))=some r:=by rw[Ry rfl]at H;exact H
             clear H
             have H:=H1
             clear H1
             by_cases aM:((Aa b a).f0)=d
             ·rw[Ry aM]at H
              have D:(((Aa b a).f0)==d)=true:=RO.mpr aM
              have cV:(((Aa b a).f0) != d)=false:=Fc aM
              clear aM
              (first|rw[D]|(simp only[BJ,BP];rw[D])|skip)
              have z:=a_ H
              clear H
              have gY:=q.o
              have g5:=n.o
              obtain⟨ez,eA,eB,eC,eD,eE,eF,dq,dr,du,dv,dw,dx,dy⟩:=DC p.o
              go_wp2_with(first|((with_reducible refine BQ (f:=19) rfl ?_);refine BW 63 TE #[.agg #[.int .i64 ((Aa b a).f0),.int .i64 ((Aa b a).f1),.int .i64 ((Aa b a).f2.f0),.int .i64 ((Aa b a).f2.f1),.int .i64 ((Aa b a).f2.f2),.int .i64 ((Aa b a).f2.f3),.string ((Aa b a).f2.f4)]] ?_;(with_reducible refine(CD.calls k3 ((Aa b a).f0) ((Aa b a).f1) ((Aa b a).f2.f0) ((Aa b a).f2.f1) ((Aa b a).f2.f2) ((Aa b a).f2.f3) ((Aa b a).f2.f4) true _ dc.o ?q').mono ?_);(case q'=>exact Cm.below HG.o (Ag));rintro e ho ⟨rfl,I⟩;refine⟨_,rfl,?_⟩;replace c:=a_ (Ao (g:=t) (o:=.cells #[.int .i64 d,.int .i64 j,.slice u m.length v,.slice (some B) b.length x,.int .i64 i,.int .i64 l] 26 (0,0)) (CZ n.o c.o) I);replace p:=a_ (Ao (g:=E) (o:=.cells #[.int .i64 ((Aa b a).f0),.int .i64 ((Aa b a).f1),.int .i64 ((Aa b a).f2.f0),.int .i64 ((Aa b a).f2.f1),.int .i64 ((Aa b a).f2.f2),.int .i64 ((Aa b a).f2.f3),.string ((Aa b a).f2.f4)] 32 (0,0)) (IB p.o) I);replace HB:=Bw I;(try clear I);obtain⟨eG,eH,eI,eJ,eK,eL,eM,dz,dA,dB,dC,dD,dE,dF⟩:=DC p.o;obtain⟨eN,eO,eP,eQ,eR,eS,dG,dH,dI,dJ,dK,dL⟩:=BT c.o))
              go_meet
              case rel=>exact⟨_,((((Aa b a).f1) != (wrap64 ((wrap64 (i+a))+1)))),(CA),z,⟨by have:=G.o;have:=L.o;have:=aP.o;first|omega|exact RB _⟩,⟨Bc c.o⟩,⟨Bc p.o⟩,⟨Ag⟩⟩
             ·rw[Rz aM]at H
              have D:(((Aa b a).f0)==d)=false:=Dr aM
              have cV:(((Aa b a).f0) != d)=true:=RX.mpr aM
              (first|rw[D]|(simp only[BJ,BP];rw[D])|skip)
              have z:=a_ H
              clear H
              have gZ:=q.o
              have g6:=n.o
              obtain⟨eT,eU,eV,eW,eX,eY,eZ,dM,dN,dO,dP,dQ,dR,dS⟩:=DC p.o
              go_wp2_with(first|((with_reducible refine BQ (f:=19) rfl ?_);refine BW 63 TE #[.agg #[.int .i64 ((Aa b a).f0),.int .i64 ((Aa b a).f1),.int .i64 ((Aa b a).f2.f0),.int .i64 ((Aa b a).f2.f1),.int .i64 ((Aa b a).f2.f2),.int .i64 ((Aa b a).f2.f3),.string ((Aa b a).f2.f4)]] ?_;(with_reducible refine(CD.calls k3 ((Aa b a).f0) ((Aa b a).f1) ((Aa b a).f2.f0) ((Aa b a).f2.f1) ((Aa b a).f2.f2) ((Aa b a).f2.f3) ((Aa b a).f2.f4) true _ dc.o ?q').mono ?_);(case q'=>exact Cm.below HG.o (Ag));rintro e hp ⟨rfl,I⟩;refine⟨_,rfl,?_⟩;replace c:=a_ (Ao (g:=t) (o:=.cells #[.int .i64 d,.int .i64 j,.slice u m.length v,.slice (some B) b.length x,.int .i64 i,.int .i64 l] 26 (0,0)) (CZ n.o c.o) I);replace p:=a_ (Ao (g:=E) (o:=.cells #[.int .i64 ((Aa b a).f0),.int .i64 ((Aa b a).f1),.int .i64 ((Aa b a).f2.f0),.int .i64 ((Aa b a).f2.f1),.int .i64 ((Aa b a).f2.f2),.int .i64 ((Aa b a).f2.f3),.string ((Aa b a).f2.f4)] 32 (0,0)) (IB p.o) I);replace HB:=Bw I;(try clear I);obtain⟨e0,e1,e2,e3,e4,e5,e6,dT,dU,dV,dW,dX,dY,dZ⟩:=DC p.o;obtain⟨e7,e8,e9,e_,fa,fb,d_,ea,ec,ed,ee,ef⟩:=BT c.o))
              go_meet
              case rel=>exact⟨_,(true),(CA),z,⟨by have:=G.o;have:=L.o;have:=aP.o;first|omega|exact RB _⟩,⟨Bc c.o⟩,⟨Bc p.o⟩,⟨Ag⟩⟩
            ·replace cU:=RE.mpr cU
             subst cU
             have H1:(Am.j3 k3 b (b.length:Int) a true d j m b i l ((Aa b a).f0) ((Aa b a).f1) ((Aa b a).f2.f0) ((Aa b a).f2.f1) ((Aa b a).f2.f2) ((Aa b a).f2.f3) ((Aa b a).f2.f4))=some r:=by rw[Rz (show¬ (false=true) by decide)]at H;exact H
             clear H
             have H:=H1
             clear H1
             have z:=a_ H
             clear H
             have g0:=q.o
             have g7:=n.o
             obtain⟨fc,fe,fg,fh,fi,fj,fk,eg,eh,ei,ej,ek,en,eo⟩:=DC p.o
             go_wp2_with(first|((with_reducible refine BQ (f:=19) rfl ?_);refine BW 63 TE #[.agg #[.int .i64 ((Aa b a).f0),.int .i64 ((Aa b a).f1),.int .i64 ((Aa b a).f2.f0),.int .i64 ((Aa b a).f2.f1),.int .i64 ((Aa b a).f2.f2),.int .i64 ((Aa b a).f2.f3),.string ((Aa b a).f2.f4)]] ?_;(with_reducible refine(CD.calls k3 ((Aa b a).f0) ((Aa b a).f1) ((Aa b a).f2.f0) ((Aa b a).f2.f1) ((Aa b a).f2.f2) ((Aa b a).f2.f3) ((Aa b a).f2.f4) false _ dc.o ?q').mono ?_);(case q'=>exact Cm.below HG.o (Ag));rintro e hq ⟨rfl,I⟩;refine⟨_,rfl,?_⟩;replace c:=a_ (Ao (g:=t) (o:=.cells #[.int .i64 d,.int .i64 j,.slice u m.length v,.slice (some B) b.length x,.int .i64 i,.int .i64 l] 26 (0,0)) (CZ n.o c.o) I);replace p:=a_ (Ao (g:=E) (o:=.cells #[.int .i64 ((Aa b a).f0),.int .i64 ((Aa b a).f1),.int .i64 ((Aa b a).f2.f0),.int .i64 ((Aa b a).f2.f1),.int .i64 ((Aa b a).f2.f2),.int .i64 ((Aa b a).f2.f3),.string ((Aa b a).f2.f4)] 32 (0,0)) (IB p.o) I);replace HB:=Bw I;(try clear I)))
             go_meet
             case rel=>exact⟨_,(true),(CA),z,⟨by have:=G.o;have:=L.o;have:=aP.o;first|omega|exact RB _⟩,⟨Bc c.o⟩,⟨Bc p.o⟩,⟨Ag⟩⟩
           case rest =>
            clear cE
            try clear c5
            try clear c6
            try clear A
            try clear c8
            try clear aN
            try clear bT
            try clear aE
            try clear y
            try clear aF
            try clear aG
            try clear aH
            try clear aI
            try clear aJ
            try clear aK
            try clear cA
            try clear bU
            try clear cR
            try clear cS
            try clear fl
            try clear cT
            try clear fm
            try clear cU
            try clear aM
            try clear D
            try clear cV
            try clear M
            try clear O
            try clear P
            try clear T
            try clear U
            try clear X
            try clear Y
            try clear cx
            try clear cy
            try clear aq ar au av aw ax aa ab ae af ag ah
            try clear ay az aA aB aC aD ai aj ak al an ao
            try clear bl bm bn bo bp bq aQ aR aS aT aU aV
            try clear br bu bw bx bz bA aW aX aY aZ a0 a1
            try clear bB bC bD bE bF bG a2 a3 a4 a5 a6 a7
            try clear bH bI bJ bK bL bM a8 a9 ba bb bc bd
            try clear bN bO bP bQ bR bS be bf bg bh bj bk
            try clear cL cM cN cO cP cQ cF cG cH cI cJ cK
            try clear ep er et eu ev ew ey dh di dj dk dm dn dp
            try clear ez eA eB eC eD eE eF dq dr du dv dw dx dy
            try clear eG eH eI eJ eK eL eM dz dA dB dC dD dE dF
            try clear eN eO eP eQ eR eS dG dH dI dJ dK dL
            try clear eT eU eV eW eX eY eZ dM dN dO dP dQ dR dS
            try clear e0 e1 e2 e3 e4 e5 e6 dT dU dV dW dX dY dZ
            try clear e7 e8 e9 e_ fa fb d_ ea ec ed ee ef
            try clear fc fe fg fh fi fj fk eg eh ei ej ek en eo
            try clear cg cj ck cl cm cn bX bY bZ b6 b7 b8
            try clear cp cq cr ct cu cv b9 b_ ca cb cd cf
            obtain⟨kq,K,rfl,HA,bW,c,p,HB⟩:=hcut
            cases kq with
            | zero=>exact absurd HA.o (by simp[Am.j3])
            | succ cw =>
             have H:=HA.o
             clear HA
             simp only[Am.j3]at H
             by_cases c_:K=true
             ·subst c_
              have H1:(some false)=some r:=by rw[Ry rfl]at H;exact H
              clear H
              have H:=H1
              clear H1
              obtain rfl:=CW H
              go_wp2
              go_ret
              exact⟨C8,Ag⟩
             ·replace c_:=RE.mpr c_
              subst c_
              have H1:(if((Aa b a).f2.f0)=1 then(if((Aa b a).f2.f1)>(wrap64 ((wrap64 (10*d))+l))then(some false)else(Am.l0 cw b (b.length:Int) (wrap64 (a+1)) d j m b i l))else(Am.l0 cw b (b.length:Int) (wrap64 (a+1)) d j m b i l))=some r:=by rw[Rz (show¬ (false=true) by decide)]at H;exact H
              clear H
              have H:=H1
              clear H1
              by_cases bV:((Aa b a).f2.f0)=1
              ·rw[Ry bV]at H
               have fo:(((Aa b a).f2.f0)==1)=true:=RO.mpr bV
               have fp:(((Aa b a).f2.f0) != 1)=false:=Fc bV
               clear bV
               by_cases cB:((Aa b a).f2.f1)>(wrap64 ((wrap64 (10*d))+l))
               ·rw[Ry cB]at H
                have fq:decide ((wrap64 ((wrap64 (10*d))+l))<((Aa b a).f2.f1))=true:=BM cB
                clear cB
                obtain rfl:=CW H
                have g1:=q.o
                have g8:=n.o
                obtain⟨gn,gp,gq,gr,gu,gv,gw,fD,fE,fF,fG,fH,fI,fJ⟩:=DC (W:=wc) p.o
                obtain⟨gx,gy,gz,gA,gB,gC,fK,fL,fM,fN,fO,fP⟩:=BT (W:=wc) c.o
                go_wp2
                go_ret
                exact⟨C8,Ag⟩
               ·rw[Rz cB]at H
                have fq:decide ((wrap64 ((wrap64 (10*d))+l))<((Aa b a).f2.f1))=false:=C9 cB
                clear cB
                have z:=a_ H
                clear H
                have g2:=q.o
                have g9:=n.o
                obtain⟨gD,gE,gF,gG,gH,gI,gJ,fQ,fR,fS,fT,fU,fV,fW⟩:=DC (W:=wc) p.o
                obtain⟨gK,gL,gM,gN,gO,gP,fX,fY,fZ,f_,ga,gb⟩:=BT (W:=wc) c.o
                go_wp2
                go_roundg cw
                case measure=>have:=G.o;have:=L.o;have:=aP.o;have:=bW.o;omega
                case rel=>exact⟨(wrap64 (a+1)),(CA),z,⟨by have:=G.o;have:=L.o;have:=aP.o;have:=bW.o;omega⟩,⟨Bc c.o⟩,⟨Ag⟩⟩
              ·rw[Rz bV]at H
               have fo:(((Aa b a).f2.f0)==1)=false:=Dr bV
               have fp:(((Aa b a).f2.f0) != 1)=true:=RX.mpr bV
               have z:=a_ H
               clear H
               have g3:=q.o
               have g_:=n.o
               obtain⟨gQ,gR,gS,gT,gU,gV,gW,gf,gg,gh,gi,gj,gl,gm⟩:=DC (W:=wc) p.o
               go_wp2
               go_roundg cw
               case measure=>have:=G.o;have:=L.o;have:=aP.o;have:=bW.o;omega
               case rel=>exact⟨(wrap64 (a+1)),(CA),z,⟨by have:=G.o;have:=L.o;have:=aP.o;have:=bW.o;omega⟩,⟨Bc c.o⟩,⟨Ag⟩⟩
          ·rw[Rz cT]at H
           exact absurd H (by simp)
         ·rw[Rz cS]at H
          exact absurd H (by simp)
        ·rw[Rz bU]at H
         have cR:decide (a<(b.length:Int))=false:=C9 bU
         clear bU
         obtain rfl:=CW H
         go_wp2
         go_ret
         exact⟨C8,Ag⟩
end Go.Proofs.YtlhlpfnljglhoaaDoor.P
namespace Go.Proofs.YtlhlpfnljglhoaaDoor.P
open Go.RowKit Go.Proofs.YtlhlpfnljglhoaaDoorW.PrintWords Go.Proofs.YtlhlpfnljglhoaaDoorW.Bb Go.Proofs.YtlhlpfnljglhoaaDoorW.Dm
def Ej.f(l0:List AQ):Option (List AQ):=if l0.length<2199023255552 then some l0 else none
theorem Ej.calls(p:Option Addr)(o:Nat)(l0:List AQ)(r:List AQ)(w:World)(d:Kd.C Ck w p l0.length l0)(u:l0.length≤o)
  (h:Ej.f l0=some r) :
  Calls Tryd.prog 47 #[.slice p l0.length o] w λe w'=>∃n:Value,e=.returned (n)∧Kd.R Ck 32 w' w.heap.size (λ_=>True) n r∧Below w.heap.size w w':=by
 unfold Ej.f at h;by_cases c:l0.length<2199023255552
 ·rw[Ry c]at h;obtain rfl:=CW h;clear h;cases p with
  | none =>
   have hl:l0=[]:=by
    rcases S6 l0.length with h0|h0
    ·exact List.length_eq_zero_iff.1 h0
    ·obtain⟨ad,e,_⟩:=d.2.2 h0
     cases e
   subst hl
   simp only[List.length_nil]
   have g:=λ(W:World)=>Tj (P:=Tryd.prog) W 24 32 none 0 o 0 0 R8
   simp only[Option.isNone_none]at g
   clear d c u
   go_enter Tryd.func47,Tryd.ntmps47
   go_wp2
   go_ret
   exact⟨_,rfl,Kd.He _ _ _ _ _,RG _ _⟩
  | some a =>
   have g:=λ(W:World)=>Tj (P:=Tryd.prog) W 24 32 (some a) l0.length o 0 0 R8
   simp only[Option.isNone_some]at g
   have q:=a_ d
   have B:=a_ c
   clear d c
   have HB:=a_ (RG w.heap.size w)
   go_enter Tryd.func47,Tryd.ntmps47
   go_wp2_with(first
    | ((with_reducible refine BV (N:=5) rfl ?_);refine Kd.DG Ck _ 32 ?hg (N:=5) ?hd (xs:=([]:List AQ)) (inner:=[]) (ok:=λ_=>True) (okp:=λ_=>True) ?hr ?hp (λ_ D=>D) trivial (RG _ _) (RB _) (by simp) ?_;(case hd=>rfl);(case hg=>rfl);(case hr=>first|(go_simp;done)|(go_simp;rfl));(case hp=>exact(Bn.none _ _));intro z E m l DN i;clear DN i;have j:=a_ m;replace HB:=a_ (IY HB.o l);clear l m)
    | ((with_reducible refine Bo (b:=.append) (xs:=#[.tmp 5,.tmp 6]) rfl ?_);at_builtin;refine Kd.Cn Ck (w0:=w) w.heap.size rfl (.tmp 5) (.tmp 6) 24 32 (.agg #[(.int .i64 0),(.int .i64 0),(.int .i64 0),(.int .i64 0),(.int .i64 0),(.int .i64 0),(.string ⟨#[]⟩)]) 64 rfl R8 Dv rfl (by decide) (by omega) _ ([]:List AQ) l0 _ _ _ (λ_=>True) (λ_=>False) rfl rfl ?aO ?aR (λ_ _ h=>h) (λ_ h=>h.elim) ?aF ?aB ?aS ?aL ?_;(case aR=>exact Kd.Bu q.o HB.o);(case aB=>exact HB.o);(case aF=>exact(λ_ _=>trivial));(case aO=>exact j.o);(case aS=>exact Af HB.o);(case aL=>have:=B.o;simp;omega);intro A G y l hg t;clear HB j;have HB:=a_ l;have j:=a_ y;clear y l hg t;obtain⟨v,x,k⟩:=Kd.Be j.o;subst k))
   go_ret
   exact⟨_,rfl,j.o,HB.o⟩
 rw[Rz c]at h;cases h
def E6.f(l0:List Ba):Option (List Ba):=if l0.length<4398046511104 then some l0 else none
theorem E6.calls(p:Option Addr)(o:Nat)(l0:List Ba)(r:List Ba)(w:World)(d:Kd.C Dd w p l0.length l0)(u:l0.length≤o)
  (h:E6.f l0=some r) :
  Calls Tryd.prog 46 #[.slice p l0.length o] w λe w'=>∃n:Value,e=.returned (n)∧Kd.R Dd 68 w' w.heap.size (λ_=>True) n r∧Below w.heap.size w w':=by
 unfold E6.f at h;by_cases c:l0.length<4398046511104
 ·rw[Ry c]at h;obtain rfl:=CW h;clear h;cases p with
  | none =>
   have hl:l0=[]:=by
    rcases S6 l0.length with h0|h0
    ·exact List.length_eq_zero_iff.1 h0
    ·obtain⟨ad,e,_⟩:=d.2.2 h0
     cases e
   subst hl
   simp only[List.length_nil]
   have g:=λ(W:World)=>Tj (P:=Tryd.prog) W 23 68 none 0 o 0 0 Sf
   simp only[Option.isNone_none]at g
   clear d c u
   go_enter Tryd.func46,Tryd.ntmps46
   go_wp2
   go_ret
   exact⟨_,rfl,Kd.He _ _ _ _ _,RG _ _⟩
  | some a =>
   have g:=λ(W:World)=>Tj (P:=Tryd.prog) W 23 68 (some a) l0.length o 0 0 Sf
   simp only[Option.isNone_some]at g
   have q:=a_ d
   have B:=a_ c
   clear d c
   have HB:=a_ (RG w.heap.size w)
   go_enter Tryd.func46,Tryd.ntmps46
   go_wp2_with(first
    | ((with_reducible refine BV (N:=5) rfl ?_);refine Kd.DG Dd _ 68 ?hg (N:=5) ?hd (xs:=([]:List Ba)) (inner:=[]) (ok:=λ_=>True) (okp:=λ_=>True) ?hr ?hp (λ_ D=>D) trivial (RG _ _) (RB _) (by simp) ?_;(case hd=>rfl);(case hg=>rfl);(case hr=>first|(go_simp;done)|(go_simp;rfl));(case hp=>exact(Bn.none _ _));intro z E m l DN i;clear DN i;have j:=a_ m;replace HB:=a_ (IY HB.o l);clear l m)
    | ((with_reducible refine Bo (b:=.append) (xs:=#[.tmp 5,.tmp 6]) rfl ?_);at_builtin;refine Kd.Cn Dd (w0:=w) w.heap.size rfl (.tmp 5) (.tmp 6) 23 68 (.agg #[(.int .i64 0),(.int .i64 0),(.string ⟨#[]⟩)]) 32 rfl Sf EA rfl (by decide) (by omega) _ ([]:List Ba) l0 _ _ _ (λ_=>True) (λ_=>False) rfl rfl ?aO ?aR (λ_ _ h=>h) (λ_ h=>h.elim) ?aF ?aB ?aS ?aL ?_;(case aR=>exact Kd.Bu q.o HB.o);(case aB=>exact HB.o);(case aF=>exact(λ_ _=>trivial));(case aO=>exact j.o);(case aS=>exact Af HB.o);(case aL=>have:=B.o;simp;omega);intro A G y l hg t;clear HB j;have HB:=a_ l;have j:=a_ y;clear y l hg t;obtain⟨v,x,k⟩:=Kd.Be j.o;subst k))
   go_ret
   exact⟨_,rfl,j.o,HB.o⟩
 rw[Rz c]at h;cases h
end Go.Proofs.YtlhlpfnljglhoaaDoor.P
namespace Go.Proofs.YtlhlpfnljglhoaaDoor.P
open Go.RowKit Go.Proofs.YtlhlpfnljglhoaaDoorW.PrintWords Go.Proofs.YtlhlpfnljglhoaaDoorW.Bb
def Di.f(a:Int)(b:Int)(e:List (Ba))(g:List (AQ))(c:Int)(d:Int):Option (Int×Int×(List (Ba))×(List (AQ))×Int×Int):=(E6.f e).bind λi=>((Ej.f g).bind λj=>(some (a,b,i,j,c,d)))
theorem Di.calls(j:Int)(k:Int)(u:Option Addr)(v:Nat)(i:List (Ba))(r:Option Addr)(t:Nat)(b:List (AQ))(l:Int)(m:Int)(r1:Int)(r2:Int)(r3:List (Ba))(r4:List (AQ))(r5:Int)(r6:Int)(w:World)(T:Kd.C Dd w u i.length i)(L:i.length≤v)(U:Kd.C Ck w r b.length b)(M:b.length≤t)(h:Di.f j k i b l m=some (r1,r2,r3,r4,r5,r6)) :
  Calls Tryd.prog 28 #[.agg #[.int .i64 j,.int .i64 k,.slice u i.length v,.slice r b.length t,.int .i64 l,.int .i64 m]] w λe w'=>∃af ag:Value,e=.returned (.agg #[.int .i64 r1,.int .i64 r2,af,ag,.int .i64 r5,.int .i64 r6])∧Kd.R Dd 68 w' w.heap.size (λ_=>True) af r3∧Kd.R Ck 32 w' w.heap.size (λ_=>True) ag r4∧Below w.heap.size w w':=by
 have be:=RP;have Y:=a_ T;have W:=a_ L;clear T L;have Z:=a_ U;have X:=a_ M;clear U M;have HB:=a_ (RG w.heap.size w);unfold Di.f at h;have H:=h;clear h;replace H:=BR H;obtain⟨x,aa,H⟩:=H;try dsimp only at H
 have A2:=a_ aa;clear aa;replace H:=BR H;obtain⟨y,ab,H⟩:=H;try dsimp only at H
 have A3:=a_ ab;clear ab;simp only[Option.some.injEq,Prod.mk.injEq]at H;obtain⟨rfl,rfl,rfl,rfl,rfl,rfl⟩:=H;go_enter Tryd.func28,Tryd.ntmps28;go_wp2_with(first|((with_reducible refine BV (N:=1) rfl ?_);refine Cy 1 (#[.int .i64 j,.int .i64 k,.slice u i.length v,.slice r b.length t,.int .i64 l,.int .i64 m]) 26 ?_;intro d hg w4 E D;have a:=a_ (E);have aj:=BD w hg;have ah:=BD w hg;replace HB:=Bw D;clear D E hg)|((with_reducible refine BV (N:=2) rfl ?_);refine Cy 2 (#[.int .i64 0,.int .i64 0,.slice none 0 0,.slice none 0 0,.int .i64 0,.int .i64 0]) 26 ?_;intro q hg w5 E D;have c:=a_ (E);have ak:=BD w hg;have ai:=BD w hg;have G:=a_ ((by rw[hg];exact RN (Av (g:=d) (o:=.cells #[.int .i64 j,.int .i64 k,.slice u i.length v,.slice r b.length t,.int .i64 l,.int .i64 m] 26 (0,0)) (Bc a.o)):d≠q));have n:=a_ ((by rw[hg];exact RM (Av (g:=d) (o:=.cells #[.int .i64 j,.int .i64 k,.slice u i.length v,.slice r b.length t,.int .i64 l,.int .i64 m] 26 (0,0)) (Bc a.o)):q≠d));replace a:=a_ (Cr a.o D);replace HB:=Bw D;clear D E hg;have bc:=G.o;have bd:=n.o;obtain⟨a6,a7,a8,a9,ba,bb,a0,a1,a2,a3,a4,a5⟩:=BT a.o)|((with_reducible refine BQ (f:=46) rfl ?_);refine BW 5 Tryd.func46 #[.slice u i.length v] ?_;(with_reducible refine(E6.calls _ _ i x _ ?q' ?z' A2.o).mono ?_);(case q'=>exact F0 Y.o);(case z'=>exact W.o);rintro e w8 ⟨bf,rfl,P,D⟩;refine⟨_,rfl,?_⟩;have z:=a_ (Kd.AU P (Af (Ag)));replace HB:=Bw D;replace a:=a_ (Cr a.o D);replace c:=a_ (Cr c.o D);(try clear D P);obtain⟨I,K,aZ⟩:=Kd.Be z.o;subst aZ;obtain⟨aH,aI,aJ,aK,aL,aM,al,an,ao,aq,ar,au⟩:=BT a.o)|((with_reducible refine BQ (f:=47) rfl ?_);refine BW 9 Tryd.func47 #[.slice r b.length t] ?_;(with_reducible refine(Ej.calls _ _ b y _ ?q' ?z' A3.o).mono ?_);(case q'=>exact Kd.Bu Z.o (Ag));(case z'=>exact X.o);rintro e bh ⟨bg,rfl,P,D⟩;refine⟨_,rfl,?_⟩;have J:=a_ (Kd.AU P (Af (Ag)));replace z:=a_ (Kd.AJ (by refine AV ?_;exact(Kd.Ai (Kd.CS (p:=⟨d,2,none⟩) (Kd.Aj z.o a.o (by decide)) (λ_ O=>O.2) (.slice I x.length K)) (λ_ h_=>h_.1))) D);replace a:=a_ (Ao (g:=d) (o:=.cells #[.int .i64 j,.int .i64 k,.slice I x.length K,.slice r b.length t,.int .i64 l,.int .i64 m] 26 (0,0)) (by(with_reducible repeat(first|refine Fz ?_ _|refine Du ?_|refine EG ?_ _));refine BF (cs:=#[.int .i64 j,.int .i64 k,.slice u i.length v,.slice r b.length t,.int .i64 l,.int .i64 m]) ?_ 2 _ rfl;(with_reducible repeat(first|refine Fz ?_ _|refine Du ?_|refine EG ?_ _));exact a.o) D);replace c:=a_ (Ao (g:=q) (o:=.cells #[.int .i64 0,.int .i64 0,.slice none 0 0,.slice none 0 0,.int .i64 0,.int .i64 0] 26 (0,0)) (CZ n.o c.o) D);replace HB:=Bw D;(try clear D P);obtain⟨A,B,ae⟩:=Kd.Be J.o;subst ae;obtain⟨aN,aO,aP,aQ,aR,aS,av,aw,ax,ay,az,aA⟩:=BT a.o;obtain⟨aT,aU,aV,aW,aX,aY,aB,aC,aD,aE,aF,aG⟩:=BT c.o));refine RH (RF rfl _ _ q 26 #[.int .i64 j,.int .i64 k,.slice I x.length K,.slice A y.length B,.int .i64 l,.int .i64 m] (0,0) _ rfl (Hu n.o c.o) RP rfl (by kernel_rfl)) rfl ?_;exact⟨_,_,C8,by refine AV ?_;exact Kd.Ai (Dw (g:=q) (Kd.CS (p:=⟨d,3,none⟩) (Kd.Aj (Kd.Aj z.o a.o (by decide)) c.o (by decide)) (λ_ O=>O.1.2) (.slice A y.length B)) (λ_ O=>O.2) (.int .i64 j) (.int .i64 k) (.slice I x.length K) (.slice A y.length B) (.int .i64 l) (.int .i64 m)) (λ_ O=>trivial),by refine AV ?_;exact Kd.Ai (Dw (g:=q) (Kd.CS (p:=⟨d,3,none⟩) (Kd.Aj (Kd.Aj J.o a.o (by decide)) c.o (by decide)) (λ_ O=>O.1.2) (.slice A y.length B)) (λ_ O=>O.2) (.int .i64 j) (.int .i64 k) (.slice I x.length K) (.slice A y.length B) (.int .i64 l) (.int .i64 m)) (λ_ O=>trivial),Ag⟩
def AK.j0:Nat->Bool->Int->Int->List (Ba)->List (AQ)->Int->Int->Int->Int->Int->Int->ByteArray->Int->Int->Int->Int->Int->Int->ByteArray->Option (Int×Int×(List (Ba))×(List (AQ))×Int×Int×Bool)
 | 0,_,_,_,_,_,_,_,_,_,_,_,_,_,_,_,_,_,_,_=>none
 | k+1,x,a,b,c,d,e,g,i,t,u,v,w,j,l,m,n,o,p,q=>if x=true then(some (a,b,c,d,e,g,false))else(if d.length<2199023255552 then((some (d++[(⟨j,l,(⟨m,n,o,p,q⟩:E0)⟩:AQ)]:List (AQ))).bind λr=>(if i=1 then(some (a,b,c,r,e,wrap64 (g+1),true))else(some (a,b,c,r,e,g,true))))else(none))
def AK.f(k:Nat)(i:Int)(j:Int)(n:List (Ba))(o:List (AQ))(l:Int)(m:Int)(b:Int)(c:Int)(d:Int)(e:Int)(g:ByteArray):Option (Int×Int×(List (Ba))×(List (AQ))×Int×Int×Bool):=(Am.f k i j n o l m).bind λp=>(if p=true then((Di.f i j n o l m).bind λa=>((CD.f k a.1 (wrap64 ((wrap64 (a.2.2.2.2.1+(a.2.2.2.1.length:Int)))+1)) b c d e g).bind λq=>(if q=true then(if b=1 then((CE.f a.1 (wrap64 (a.2.2.2.2.2+1))).bind λr=>(AK.j0 k (c != r) a.1 a.2.1 a.2.2.1 a.2.2.2.1 a.2.2.2.2.1 a.2.2.2.2.2 b c d e g a.1 (wrap64 ((wrap64 (a.2.2.2.2.1+(a.2.2.2.1.length:Int)))+1)) b c d e g))else(AK.j0 k false a.1 a.2.1 a.2.2.1 a.2.2.2.1 a.2.2.2.2.1 a.2.2.2.2.2 b c d e g a.1 (wrap64 ((wrap64 (a.2.2.2.2.1+(a.2.2.2.1.length:Int)))+1)) b c d e g))else(AK.j0 k true a.1 a.2.1 a.2.2.1 a.2.2.2.1 a.2.2.2.2.1 a.2.2.2.2.2 b c d e g a.1 (wrap64 ((wrap64 (a.2.2.2.2.1+(a.2.2.2.1.length:Int)))+1)) b c d e g))))else(some (0,0,([]:List (Ba)),([]:List (AQ)),0,0,false)))
def AK.T5:Bool×List (List Nat×List Nat):=(true,[([],[]),([0],[0]),([1],[1]),([2,1],[2]),([3],[3]),([4,3],[3,4]),([5,3],[3,5]),([6,3,3],[3,6]),([7],[7]),([8,7],[7,8]),([7],[7]),([10,7],[7,10]),([7],[7]),([12,7],[7,12]),([13,7],[7,13]),([11,14,7,7],[7,11,14]),([9,15,7],[7,9,15]),([7,16,3],[3,7,16]),([3,17],[3,17])])
def AK.B5:List Nat:=[0,1,3,7,15,31,63,127,255,511,255,1279,255,4351,12543,31999,65535,131071,262143]
theorem AK.I8:EK .any (opsOf Tryd.f10 5)=AK.T5:=by kernel_rfl
theorem AK.Gr:DS AK.T5.2 AK.B5=true:=by kernel_rfl
end Go.Proofs.YtlhlpfnljglhoaaDoor.P
namespace Go.Proofs.YtlhlpfnljglhoaaDoor.P
open Go.RowKit Go.Proofs.YtlhlpfnljglhoaaDoorW.PrintWords Go.Proofs.YtlhlpfnljglhoaaDoorW.Bb
theorem AK.calls(k:Nat)(aj:Int)(ak:Int)(ax:Option Addr)(az:Nat)(Z:List (Ba))(ay:Option Addr)(aA:Nat)(aa:List (AQ))(al:Int)(an:Int)(j:Int)(q:Int)(t:Int)(u:Int)(v:ByteArray)(r1:Int)(r2:Int)(r3:List (Ba))(r4:List (AQ))(r5:Int)(r6:Int)(r7:Bool)(w:World)(bb:Kd.C Dd w ax Z.length Z)(a9:Z.length≤az)(bc:Kd.C Ck w ay aa.length aa)(ba:aa.length≤aA)(h:AK.f k aj ak Z aa al an j q t u v=some (r1,r2,r3,r4,r5,r6,r7))(hG:Cm w) :
  Calls Tryd.prog 10 #[.agg #[.int .i64 aj,.int .i64 ak,.slice ax Z.length az,.slice ay aa.length aA,.int .i64 al,.int .i64 an],.agg #[.int .i64 j,.int .i64 q,.int .i64 t,.int .i64 u,.string v]] w λe w'=>∃bH bI:Value,e=.returned (.tuple #[.agg #[.int .i64 r1,.int .i64 r2,bH,bI,.int .i64 r5,.int .i64 r6],.bool r7])∧Kd.R Dd 68 w' w.heap.size (λ_=>True) bH r3∧Kd.R Ck 32 w' w.heap.size (λ_=>True) bI r4∧Below w.heap.size w w':=by
 have hq:=RP;have hr:=RW;have ht:=Sk;have a2:=a_ bb;have a0:=a_ a9;clear bb a9;have a3:=a_ bc;have a1:=a_ ba;clear bc ba;have HB:=a_ (RG w.heap.size w);have HG:=a_ hG;clear hG;unfold AK.f at h;have H:=h;clear h;replace H:=BR H;obtain⟨bG,bx,H⟩:=H;try dsimp only at H
 have A3:=a_ bx;clear bx;by_cases c4:bG=true
 ·subst c4;have H1:((Di.f aj ak Z aa al an).bind λA=>((CD.f k A.1 (wrap64 ((wrap64 (A.2.2.2.2.1+(A.2.2.2.1.length:Int)))+1)) j q t u v).bind λbd=>(if bd=true then(if j=1 then((CE.f A.1 (wrap64 (A.2.2.2.2.2+1))).bind λaT=>(AK.j0 k (q != aT) A.1 A.2.1 A.2.2.1 A.2.2.2.1 A.2.2.2.2.1 A.2.2.2.2.2 j q t u v A.1 (wrap64 ((wrap64 (A.2.2.2.2.1+(A.2.2.2.1.length:Int)))+1)) j q t u v))else(AK.j0 k false A.1 A.2.1 A.2.2.1 A.2.2.2.1 A.2.2.2.2.1 A.2.2.2.2.2 j q t u v A.1 (wrap64 ((wrap64 (A.2.2.2.2.1+(A.2.2.2.1.length:Int)))+1)) j q t u v))else(AK.j0 k true A.1 A.2.1 A.2.2.1 A.2.2.2.1 A.2.2.2.2.1 A.2.2.2.2.2 j q t u v A.1 (wrap64 ((wrap64 (A.2.2.2.2.1+(A.2.2.2.1.length:Int)))+1)) j q t u v))))=some (r1,r2,r3,r4,r5,r6,r7):=by rw[Ry rfl]at H;exact H
  clear H;have H:=H1;clear H1;replace H:=BR H;obtain⟨⟨m,M,E,l,r,J⟩,bz,H⟩:=H;try dsimp only at H
  have A5:=a_ bz;clear bz;have bq:=a_ H;clear H;go_enter Tryd.func10,Tryd.ntmps10;go_upto_region 5 with(first|((with_reducible refine BV (N:=2) rfl ?_);refine Cy 2 (#[.int .i64 aj,.int .i64 ak,.slice ax Z.length az,.slice ay aa.length aA,.int .i64 al,.int .i64 an]) 26 ?_;intro y hg w7 ai O;have c:=a_ (ai);have bn:=BD w hg;have bk:=BD w hg;replace HB:=Bw O;clear O ai hg)|((with_reducible refine BV (N:=3) rfl ?_);refine Cy 3 (#[.int .i64 j,.int .i64 q,.int .i64 t,.int .i64 u,.string v]) 30 ?_;intro z hg w8 ai O;have i:=a_ (ai);have bo:=BD w hg;have bl:=BD w hg;have ao:=a_ ((by rw[hg];exact RN (Av (g:=y) (o:=.cells #[.int .i64 aj,.int .i64 ak,.slice ax Z.length az,.slice ay aa.length aA,.int .i64 al,.int .i64 an] 26 (0,0)) (Bc c.o)):y≠z));have P:=a_ ((by rw[hg];exact RM (Av (g:=y) (o:=.cells #[.int .i64 aj,.int .i64 ak,.slice ax Z.length az,.slice ay aa.length aA,.int .i64 al,.int .i64 an] 26 (0,0)) (Bc c.o)):z≠y));replace c:=a_ (Cr c.o O);replace HB:=Bw O;clear O ai hg)|((with_reducible refine BV (N:=4) rfl ?_);refine Cy 4 (#[.int .i64 0,.int .i64 0,.slice none 0 0,.slice none 0 0,.int .i64 0,.int .i64 0]) 26 ?_;intro D hg w9 ai O;have x:=a_ (ai);have bp:=BD w hg;have bm:=BD w hg;have aq:=a_ ((by rw[hg];exact RN (Av (g:=y) (o:=.cells #[.int .i64 aj,.int .i64 ak,.slice ax Z.length az,.slice ay aa.length aA,.int .i64 al,.int .i64 an] 26 (0,0)) (Bc c.o)):y≠D));have L:=a_ ((by rw[hg];exact RM (Av (g:=y) (o:=.cells #[.int .i64 aj,.int .i64 ak,.slice ax Z.length az,.slice ay aa.length aA,.int .i64 al,.int .i64 an] 26 (0,0)) (Bc c.o)):D≠y));have ar:=a_ ((by rw[hg];exact RN (Av (g:=z) (o:=.cells #[.int .i64 j,.int .i64 q,.int .i64 t,.int .i64 u,.string v] 30 (0,0)) (Bc i.o)):z≠D));have av:=a_ ((by rw[hg];exact RM (Av (g:=z) (o:=.cells #[.int .i64 j,.int .i64 q,.int .i64 t,.int .i64 u,.string v] 30 (0,0)) (Bc i.o)):D≠z));replace c:=a_ (Cr c.o O);replace i:=a_ (Cr i.o O);replace HB:=Bw O;clear O ai hg;have gm:=ao.o;have gP:=P.o;have gn:=aq.o;have gQ:=L.o;obtain⟨d_,ea,ec,ed,ee,ef,bN,bO,bP,bQ,bR,bS⟩:=BT c.o)|((with_reducible refine BQ (f:=6) rfl ?_);refine BW 8 Tryd.func6 #[.agg #[.int .i64 aj,.int .i64 ak,.slice ax Z.length az,.slice ay aa.length aA,.int .i64 al,.int .i64 an]] ?_;(with_reducible refine(Am.calls k aj ak _ _ Z _ _ aa al an true _ ?q' ?z' ?y' ?v' A3.o ?m').mono ?_);(case q'=>exact F0 a2.o);(case z'=>exact a0.o);(case y'=>exact E9 (Kd.Bu a3.o HB.o));(case v'=>exact a1.o);(case m'=>exact Cm.below HG.o (Ag));rintro e hC ⟨rfl,O⟩;refine⟨_,rfl,?_⟩;replace HB:=Bw O;replace c:=a_ (Cr c.o O);replace i:=a_ (Cr i.o O);replace x:=a_ (Cr x.o O);(try clear O);obtain⟨eg,eh,ei,ej,ek,en,bT,bU,bV,bW,bX,bY⟩:=BT c.o)|((with_reducible refine BQ (f:=28) rfl ?_);refine BW 12 Tryd.func28 #[.agg #[.int .i64 aj,.int .i64 ak,.slice ax Z.length az,.slice ay aa.length aA,.int .i64 al,.int .i64 an]] ?_;(with_reducible refine(Di.calls aj ak _ _ Z _ _ aa al an m M E l r J _ ?q' ?z' ?y' ?v' A5.o).mono ?_);(case q'=>exact F0 a2.o);(case z'=>exact a0.o);(case y'=>exact E9 (Kd.Bu a3.o HB.o));(case v'=>exact a1.o);rintro e hH ⟨hv,hx,rfl,bE,bF,O⟩;refine⟨_,rfl,?_⟩;have G:=a_ (Kd.AU bE (Af (Ag)));have I:=a_ (Kd.AU bF (Af (Ag)));replace HB:=Bw O;replace c:=a_ (Cr c.o O);replace i:=a_ (Cr i.o O);replace x:=a_ (Cr x.o O);(try clear O bE bF);obtain⟨eo,ep,er,et,eu,ev,bZ,b6,b7,b8,b9,b_⟩:=BT c.o;obtain⟨T,U,bA⟩:=Kd.Be G.o;subst bA;obtain⟨ab,ae,bB⟩:=Kd.Be I.o;subst bB;have gp:=ar.o;have gR:=av.o;obtain⟨ew,ey,ez,eA,eB,ca,cb,cd,cf,cg⟩:=CI i.o)|((with_reducible refine BV (N:=6) rfl ?_);refine Cy 6 (#[.int .i64 0,.int .i64 0,.int .i64 0,.int .i64 0,.int .i64 0,.int .i64 0,.string (⟨#[]⟩:ByteArray)]) 32 ?_;intro a hg aw ai O;have d:=a_ (ai);have bM:=BD w hg;have bL:=BD w hg;have ag:=a_ ((by rw[hg];exact RN (Av (g:=y) (o:=.cells #[.int .i64 m,.int .i64 M,.slice T E.length U,.slice ab l.length ae,.int .i64 r,.int .i64 J] 26 (0,0)) (F4 c.o)):y≠a));have aD:=a_ ((by rw[hg];exact RM (Av (g:=y) (o:=.cells #[.int .i64 m,.int .i64 M,.slice T E.length U,.slice ab l.length ae,.int .i64 r,.int .i64 J] 26 (0,0)) (F4 c.o)):a≠y));have au:=a_ ((by rw[hg];exact RN (Av (g:=z) (o:=.cells #[.int .i64 j,.int .i64 q,.int .i64 t,.int .i64 u,.string v] 30 (0,0)) (CZ P.o i.o)):z≠a));have aG:=a_ ((by rw[hg];exact RM (Av (g:=z) (o:=.cells #[.int .i64 j,.int .i64 q,.int .i64 t,.int .i64 u,.string v] 30 (0,0)) (CZ P.o i.o)):a≠z));have ah:=a_ ((by rw[hg];exact RN (Av (g:=D) (o:=.cells #[.int .i64 0,.int .i64 0,.slice none 0 0,.slice none 0 0,.int .i64 0,.int .i64 0] 26 (0,0)) (CZ L.o x.o)):D≠a));have aE:=a_ ((by rw[hg];exact RM (Av (g:=D) (o:=.cells #[.int .i64 0,.int .i64 0,.slice none 0 0,.slice none 0 0,.int .i64 0,.int .i64 0] 26 (0,0)) (CZ L.o x.o)):a≠D));replace G:=a_ (Kd.AJ (by refine AV ?_;exact(Kd.Ai (Dw (g:=y) (Kd.Aj G.o c.o (by decide)) (λ_ X=>X.2) (.int .i64 m) (.int .i64 M) (.slice T E.length U) (.slice ab l.length ae) (.int .i64 r) (.int .i64 J)) (λ_ h_=>h_.1))) O);replace I:=a_ (Kd.AJ (Kd.Kp (by refine AV ?_;exact(Kd.Ai (Dw (g:=y) (Kd.Aj I.o c.o (by decide)) (λ_ X=>X.2) (.int .i64 m) (.int .i64 M) (.slice T E.length U) (.slice ab l.length ae) (.int .i64 r) (.int .i64 J)) (λ_ h_=>h_.1))) a (Sd hg.symm)) O);replace c:=a_ (Ao (g:=y) (o:=.cells #[.int .i64 m,.int .i64 M,.slice T E.length U,.slice ab l.length ae,.int .i64 r,.int .i64 J] 26 (0,0)) (F4 c.o) O);replace i:=a_ (Ao (g:=z) (o:=.cells #[.int .i64 j,.int .i64 q,.int .i64 t,.int .i64 u,.string v] 30 (0,0)) (CZ P.o i.o) O);replace x:=a_ (Ao (g:=D) (o:=.cells #[.int .i64 0,.int .i64 0,.slice none 0 0,.slice none 0 0,.int .i64 0,.int .i64 0] 26 (0,0)) (CZ L.o x.o) O);replace HB:=Bw O;clear O ai hg;have gq:=aD.o;have gS:=ag.o;have gr:=aG.o;have gT:=au.o;have gu:=aE.o;have gU:=ah.o;obtain⟨eC,eD,eE,eF,eG,eH,eI,cj,ck,cl,cm,cn,cp,cq⟩:=DC d.o))
  (try simp only[Act.put,List.setIfInBounds_toArray,List.set_cons_zero,List.set_cons_succ]);go_cut [42] (λhh wc=>∃(kq:Nat) (aU:Bool),hh=.bool aU∧Ac (AK.j0 kq aU m M E l r J j q t u v m (wrap64 ((wrap64 (r+(l.length:Int)))+1)) j q t u v=some (r1,r2,r3,r4,r5,r6,r7))∧Ac (kq≤k)∧Ac (Kd.R Dd 68 wc w.heap.size (λ_=>True) (.slice T E.length U) E)∧Ac (Kd.R Ck 32 wc w.heap.size (λk_=>k_≠a) (.slice ab l.length ae) l)∧Ac (wc.heap[y]?=some (.cells #[.int .i64 m,.int .i64 M,(.slice T E.length U),(.slice ab l.length ae),.int .i64 r,.int .i64 J] 26 (0,0)))∧Ac (wc.heap[z]?=some (.cells #[.int .i64 j,.int .i64 q,.int .i64 t,.int .i64 u,.string v] 30 (0,0)))∧Ac (wc.heap[D]?=some (.cells #[.int .i64 0,.int .i64 0,(.slice none 0 0),(.slice none 0 0),.int .i64 0,.int .i64 0] 26 (0,0)))∧Ac (wc.heap[a]?=some (.cells #[.int .i64 m,.int .i64 (wrap64 ((wrap64 (r+(l.length:Int)))+1)),.int .i64 j,.int .i64 q,.int .i64 t,.int .i64 u,.string v] 32 (0,0)))∧Ac (Below w.heap.size w wc))
  case first =>
   have H:=bq.o;clear bq;replace H:=BR H;obtain⟨bd,bg,H⟩:=H;try dsimp only at H
   have bj:=a_ bg;clear bg;by_cases a7:bd=true
   ·subst a7;have H1:(if j=1 then((CE.f m (wrap64 (J+1))).bind λaT=>(AK.j0 k (q != aT) m M E l r J j q t u v m (wrap64 ((wrap64 (r+(l.length:Int)))+1)) j q t u v))else(AK.j0 k false m M E l r J j q t u v m (wrap64 ((wrap64 (r+(l.length:Int)))+1)) j q t u v))=some (r1,r2,r3,r4,r5,r6,r7):=by rw[Ry rfl]at H;exact H
    clear H;have H:=H1;clear H1;by_cases aX:j=1
    ·rw[Ry aX]at H;have aH:(j==1)=true:=RO.mpr aX;have a8:(j != 1)=false:=Fc aX;clear aX;(first|rw[aH]|(simp only[BJ,BP];rw[aH])|skip);replace H:=BR H;obtain⟨aT,bh,H⟩:=H;try dsimp only at H
     have bK:=a_ bh;clear bh;have H':=a_ H;clear H;try go_wp2
     have n0_:Ac (Kd.R Dd 68 (((((((aw.setCell ⟨a,0,none⟩ (.int .i64 m)).setCell ⟨a,1,none⟩ (.int .i64 (wrap64 ((wrap64 (r+(l.length:Int)))+1)))).setCell ⟨a,2,none⟩ (.int .i64 j)).setCell ⟨a,3,none⟩ (.int .i64 q)).setCell ⟨a,4,none⟩ (.int .i64 t)).setCell ⟨a,5,none⟩ (.int .i64 u)).setCell ⟨a,6,none⟩ (.string v)) w.heap.size (λ_=>True) (.slice T E.length U) E):=⟨by refine AV ?_;exact Kd.Ai (Mv (g:=a) (Kd.Aj G.o d.o (by decide)) (λ_ X=>X.2) (.int .i64 m) (.int .i64 (wrap64 ((wrap64 (r+(l.length:Int)))+1))) (.int .i64 j) (.int .i64 q) (.int .i64 t) (.int .i64 u) (.string v)) (λ_ X=>trivial)⟩
     have aJ:Ac (Kd.R Ck 32 (((((((aw.setCell ⟨a,0,none⟩ (.int .i64 m)).setCell ⟨a,1,none⟩ (.int .i64 (wrap64 ((wrap64 (r+(l.length:Int)))+1)))).setCell ⟨a,2,none⟩ (.int .i64 j)).setCell ⟨a,3,none⟩ (.int .i64 q)).setCell ⟨a,4,none⟩ (.int .i64 t)).setCell ⟨a,5,none⟩ (.int .i64 u)).setCell ⟨a,6,none⟩ (.string v)) w.heap.size (λk_=>k_≠a) (.slice ab l.length ae) l):=⟨by refine AV ?_;exact Kd.Ai (Mv (g:=a) (Kd.Ai I.o (λk_ X=>(⟨X,X.2⟩:_∧k_≠a))) (λ_ X=>X.2) (.int .i64 m) (.int .i64 (wrap64 ((wrap64 (r+(l.length:Int)))+1))) (.int .i64 j) (.int .i64 q) (.int .i64 t) (.int .i64 u) (.string v)) (λ_ X=>X.1.2)⟩
     have aK:Ac ((((((((aw.setCell ⟨a,0,none⟩ (.int .i64 m)).setCell ⟨a,1,none⟩ (.int .i64 (wrap64 ((wrap64 (r+(l.length:Int)))+1)))).setCell ⟨a,2,none⟩ (.int .i64 j)).setCell ⟨a,3,none⟩ (.int .i64 q)).setCell ⟨a,4,none⟩ (.int .i64 t)).setCell ⟨a,5,none⟩ (.int .i64 u)).setCell ⟨a,6,none⟩ (.string v)).heap[y]?=some (.cells #[.int .i64 m,.int .i64 M,.slice T E.length U,.slice ab l.length ae,.int .i64 r,.int .i64 J] 26 (0,0))):=⟨CZ ag.o c.o⟩
     have aM:Ac ((((((((aw.setCell ⟨a,0,none⟩ (.int .i64 m)).setCell ⟨a,1,none⟩ (.int .i64 (wrap64 ((wrap64 (r+(l.length:Int)))+1)))).setCell ⟨a,2,none⟩ (.int .i64 j)).setCell ⟨a,3,none⟩ (.int .i64 q)).setCell ⟨a,4,none⟩ (.int .i64 t)).setCell ⟨a,5,none⟩ (.int .i64 u)).setCell ⟨a,6,none⟩ (.string v)).heap[z]?=some (.cells #[.int .i64 j,.int .i64 q,.int .i64 t,.int .i64 u,.string v] 30 (0,0))):=⟨CZ au.o i.o⟩
     have aN:Ac ((((((((aw.setCell ⟨a,0,none⟩ (.int .i64 m)).setCell ⟨a,1,none⟩ (.int .i64 (wrap64 ((wrap64 (r+(l.length:Int)))+1)))).setCell ⟨a,2,none⟩ (.int .i64 j)).setCell ⟨a,3,none⟩ (.int .i64 q)).setCell ⟨a,4,none⟩ (.int .i64 t)).setCell ⟨a,5,none⟩ (.int .i64 u)).setCell ⟨a,6,none⟩ (.string v)).heap[D]?=some (.cells #[.int .i64 0,.int .i64 0,.slice none 0 0,.slice none 0 0,.int .i64 0,.int .i64 0] 26 (0,0))):=⟨CZ ah.o x.o⟩
     have aQ:Ac ((((((((aw.setCell ⟨a,0,none⟩ (.int .i64 m)).setCell ⟨a,1,none⟩ (.int .i64 (wrap64 ((wrap64 (r+(l.length:Int)))+1)))).setCell ⟨a,2,none⟩ (.int .i64 j)).setCell ⟨a,3,none⟩ (.int .i64 q)).setCell ⟨a,4,none⟩ (.int .i64 t)).setCell ⟨a,5,none⟩ (.int .i64 u)).setCell ⟨a,6,none⟩ (.string v)).heap[a]?=some (.cells #[.int .i64 m,.int .i64 (wrap64 ((wrap64 (r+(l.length:Int)))+1)),.int .i64 j,.int .i64 q,.int .i64 t,.int .i64 u,.string v] 32 (0,0))):=⟨IB d.o⟩
     have aR:Ac (Below w.heap.size w (((((((aw.setCell ⟨a,0,none⟩ (.int .i64 m)).setCell ⟨a,1,none⟩ (.int .i64 (wrap64 ((wrap64 (r+(l.length:Int)))+1)))).setCell ⟨a,2,none⟩ (.int .i64 j)).setCell ⟨a,3,none⟩ (.int .i64 q)).setCell ⟨a,4,none⟩ (.int .i64 t)).setCell ⟨a,5,none⟩ (.int .i64 u)).setCell ⟨a,6,none⟩ (.string v))):=⟨Ag⟩
     (try clear G);(try clear I);(try clear c);(try clear i);(try clear x);(try clear d);(try clear HB);generalize (((((((aw.setCell ⟨a,0,none⟩ (.int .i64 m)).setCell ⟨a,1,none⟩ (.int .i64 (wrap64 ((wrap64 (r+(l.length:Int)))+1)))).setCell ⟨a,2,none⟩ (.int .i64 j)).setCell ⟨a,3,none⟩ (.int .i64 q)).setCell ⟨a,4,none⟩ (.int .i64 t)).setCell ⟨a,5,none⟩ (.int .i64 u)).setCell ⟨a,6,none⟩ (.string v))=hj at n0_ aJ aK aM aN aQ aR⊢;have G:=n0_;have I:=aJ;have c:=aK;have i:=aM;have x:=aN;have d:=aQ;have HB:=aR;clear n0_ aJ aK aM aN aQ aR;replace G:=a_ (Kd.D_ G.o);replace I:=a_ (Kd.D_ I.o);replace c:=a_ (Du c.o);replace i:=a_ (Du i.o);replace x:=a_ (Du x.o);replace d:=a_ (Du d.o);replace HB:=a_ (Ay HB.o);refine Cl (n:=19) (S:=λw'=>w'.cell? ⟨a,0,none⟩=some (.int .i64 m)∧w'.cell? ⟨a,1,none⟩=some (.int .i64 (wrap64 ((wrap64 (r+(l.length:Int)))+1)))∧w'.cell? ⟨a,2,none⟩=some (.int .i64 j)∧w'.cell? ⟨a,3,none⟩=some (.int .i64 q)∧w'.cell? ⟨a,4,none⟩=some (.int .i64 t)∧w'.cell? ⟨a,5,none⟩=some (.int .i64 u)∧w'.cell? ⟨a,6,none⟩=some (.string v)∧w'.cell? ⟨z,0,none⟩=some (.int .i64 j)∧w'.cell? ⟨z,1,none⟩=some (.int .i64 q)∧w'.cell? ⟨z,2,none⟩=some (.int .i64 t)∧w'.cell? ⟨z,3,none⟩=some (.int .i64 u)∧w'.cell? ⟨z,4,none⟩=some (.string v)∧w'.cell? ⟨y,0,none⟩=some (.int .i64 m)∧w'.cell? ⟨y,1,none⟩=some (.int .i64 M)∧w'.cell? ⟨y,2,none⟩=some (.slice T E.length U)∧w'.cell? ⟨y,3,none⟩=some (.slice ab l.length ae)∧w'.cell? ⟨y,4,none⟩=some (.int .i64 r)∧w'.cell? ⟨y,5,none⟩=some (.int .i64 J)) (ds:=[]) #[false,false,false,false,false,false,false,false,false,false,false,false,false,false,false,false,false,false,false] (by kernel_rfl) rfl rfl ⟨(Ax d.o 0).trans rfl,(Ax d.o 1).trans rfl,(Ax d.o 2).trans rfl,(Ax d.o 3).trans rfl,(Ax d.o 4).trans rfl,(Ax d.o 5).trans rfl,(Ax d.o 6).trans rfl,(Ax i.o 0).trans rfl,(Ax i.o 1).trans rfl,(Ax i.o 2).trans rfl,(Ax i.o 3).trans rfl,(Ax i.o 4).trans rfl,(Ax c.o 0).trans rfl,(Ax c.o 1).trans rfl,(Ax c.o 2).trans rfl,(Ax c.o 3).trans rfl,(Ax c.o 4).trans rfl,(Ax c.o 5).trans rfl⟩ (λY=>?_);refine B1 AK.I8 AK.Gr (λHT_ HW_=>?_);generalize hj.drew=hJ at G I c i x d HB Y⊢;refine KP 0 24 Y ?_;refine E7 1 25 (λK hK=>?_);refine C7 TE (by kernel_rfl) rfl #[.agg #[.int .i64 m,.int .i64 (wrap64 ((wrap64 (r+(l.length:Int)))+1)),.int .i64 j,.int .i64 q,.int .i64 t,.int .i64 u,.string v]] (by rfl) rfl rfl JV ?_;with_reducible refine(CD.calls k m (wrap64 ((wrap64 (r+(l.length:Int)))+1)) j q t u v true _ bj.o ?q').mono ?_
     (case q'=>exact Cm.below HG.o (Ag));rintro e hL ⟨rfl,O⟩;refine⟨_,rfl,?_⟩;replace G:=a_ (Kd.AJ (AV G.o) O);replace I:=a_ (Kd.AJ (AV I.o) O);replace HB:=Bw O;replace c:=a_ (Cr c.o O);replace i:=a_ (Cr i.o O);replace x:=a_ (Cr x.o O);replace d:=a_ (Cr d.o O);try clear O
     refine hK.out _ _ ⟨(Ax d.o 0).trans rfl,(Ax d.o 1).trans rfl,(Ax d.o 2).trans rfl,(Ax d.o 3).trans rfl,(Ax d.o 4).trans rfl,(Ax d.o 5).trans rfl,(Ax d.o 6).trans rfl,(Ax i.o 0).trans rfl,(Ax i.o 1).trans rfl,(Ax i.o 2).trans rfl,(Ax i.o 3).trans rfl,(Ax i.o 4).trans rfl,(Ax c.o 0).trans rfl,(Ax c.o 1).trans rfl,(Ax c.o 2).trans rfl,(Ax c.o 3).trans rfl,(Ax c.o 4).trans rfl,(Ax c.o 5).trans rfl⟩ (λY=>?_);clear hK K;refine Er 25 ?_;refine Bf 2 26 ?_;refine Bf 3 27 ?_;refine Bf 4 28 ?_;refine KP 5 29 Y ?_;refine Bf 6 30 ?_;refine Bf 7 31 ?_;refine Bf 8 32 ?_;refine Bf 10 34 ?_;refine Bf 12 36 ?_;refine KP 9 33 Y ?_;refine KP 11 35 Y ?_;refine KP 13 37 Y ?_;refine Bf 14 38 ?_;refine E7 15 39 (λK hK=>?_);refine C7 TT (by kernel_rfl) rfl #[.int .i64 m,.int .i64 (wrap64 (J+1))] (by rfl) rfl rfl JV ?_;with_reducible refine(CE.calls m (wrap64 (J+1)) aT _ bK.o).mono ?_
     rintro e w' ⟨rfl,⟨nd,rfl⟩⟩;refine⟨_,rfl,?_⟩;refine hK.out _ _ ⟨(Ax d.o 0).trans rfl,(Ax d.o 1).trans rfl,(Ax d.o 2).trans rfl,(Ax d.o 3).trans rfl,(Ax d.o 4).trans rfl,(Ax d.o 5).trans rfl,(Ax d.o 6).trans rfl,(Ax i.o 0).trans rfl,(Ax i.o 1).trans rfl,(Ax i.o 2).trans rfl,(Ax i.o 3).trans rfl,(Ax i.o 4).trans rfl,(Ax c.o 0).trans rfl,(Ax c.o 1).trans rfl,(Ax c.o 2).trans rfl,(Ax c.o 3).trans rfl,(Ax c.o 4).trans rfl,(Ax c.o 5).trans rfl⟩ (λY=>?_);clear hK K;refine Er 39 ?_;refine Bf 16 40 ?_;refine Bf 17 41 ?_;refine Bf 18 42 ?_;refine CV (CT HT_.o (by kernel_rfl)) ?_;try go_wp2
     go_meet
     exact⟨_,((q != aT)),(CA),H',⟨by first|omega|exact RB _⟩,⟨by refine AV ?_;exact G.o⟩,⟨by refine AV ?_;exact I.o⟩,⟨Bc c.o⟩,⟨Bc i.o⟩,⟨Bc x.o⟩,⟨Bc d.o⟩,⟨Ag⟩⟩
    rw[Rz aX]at H;have aH:(j==1)=false:=Dr aX;have a8:(j != 1)=true:=RX.mpr aX;(first|rw[aH]|(simp only[BJ,BP];rw[aH])|skip);have H':=a_ H;clear H;try go_wp2
    have n0_:Ac (Kd.R Dd 68 (((((((aw.setCell ⟨a,0,none⟩ (.int .i64 m)).setCell ⟨a,1,none⟩ (.int .i64 (wrap64 ((wrap64 (r+(l.length:Int)))+1)))).setCell ⟨a,2,none⟩ (.int .i64 j)).setCell ⟨a,3,none⟩ (.int .i64 q)).setCell ⟨a,4,none⟩ (.int .i64 t)).setCell ⟨a,5,none⟩ (.int .i64 u)).setCell ⟨a,6,none⟩ (.string v)) w.heap.size (λ_=>True) (.slice T E.length U) E):=⟨by refine AV ?_;exact Kd.Ai (Mv (g:=a) (Kd.Aj G.o d.o (by decide)) (λ_ X=>X.2) (.int .i64 m) (.int .i64 (wrap64 ((wrap64 (r+(l.length:Int)))+1))) (.int .i64 j) (.int .i64 q) (.int .i64 t) (.int .i64 u) (.string v)) (λ_ X=>trivial)⟩
    have aJ:Ac (Kd.R Ck 32 (((((((aw.setCell ⟨a,0,none⟩ (.int .i64 m)).setCell ⟨a,1,none⟩ (.int .i64 (wrap64 ((wrap64 (r+(l.length:Int)))+1)))).setCell ⟨a,2,none⟩ (.int .i64 j)).setCell ⟨a,3,none⟩ (.int .i64 q)).setCell ⟨a,4,none⟩ (.int .i64 t)).setCell ⟨a,5,none⟩ (.int .i64 u)).setCell ⟨a,6,none⟩ (.string v)) w.heap.size (λk_=>k_≠a) (.slice ab l.length ae) l):=⟨by refine AV ?_;exact Kd.Ai (Mv (g:=a) (Kd.Ai I.o (λk_ X=>(⟨X,X.2⟩:_∧k_≠a))) (λ_ X=>X.2) (.int .i64 m) (.int .i64 (wrap64 ((wrap64 (r+(l.length:Int)))+1))) (.int .i64 j) (.int .i64 q) (.int .i64 t) (.int .i64 u) (.string v)) (λ_ X=>X.1.2)⟩
    have aK:Ac ((((((((aw.setCell ⟨a,0,none⟩ (.int .i64 m)).setCell ⟨a,1,none⟩ (.int .i64 (wrap64 ((wrap64 (r+(l.length:Int)))+1)))).setCell ⟨a,2,none⟩ (.int .i64 j)).setCell ⟨a,3,none⟩ (.int .i64 q)).setCell ⟨a,4,none⟩ (.int .i64 t)).setCell ⟨a,5,none⟩ (.int .i64 u)).setCell ⟨a,6,none⟩ (.string v)).heap[y]?=some (.cells #[.int .i64 m,.int .i64 M,.slice T E.length U,.slice ab l.length ae,.int .i64 r,.int .i64 J] 26 (0,0))):=⟨CZ ag.o c.o⟩
    have aM:Ac ((((((((aw.setCell ⟨a,0,none⟩ (.int .i64 m)).setCell ⟨a,1,none⟩ (.int .i64 (wrap64 ((wrap64 (r+(l.length:Int)))+1)))).setCell ⟨a,2,none⟩ (.int .i64 j)).setCell ⟨a,3,none⟩ (.int .i64 q)).setCell ⟨a,4,none⟩ (.int .i64 t)).setCell ⟨a,5,none⟩ (.int .i64 u)).setCell ⟨a,6,none⟩ (.string v)).heap[z]?=some (.cells #[.int .i64 j,.int .i64 q,.int .i64 t,.int .i64 u,.string v] 30 (0,0))):=⟨CZ au.o i.o⟩
    have aN:Ac ((((((((aw.setCell ⟨a,0,none⟩ (.int .i64 m)).setCell ⟨a,1,none⟩ (.int .i64 (wrap64 ((wrap64 (r+(l.length:Int)))+1)))).setCell ⟨a,2,none⟩ (.int .i64 j)).setCell ⟨a,3,none⟩ (.int .i64 q)).setCell ⟨a,4,none⟩ (.int .i64 t)).setCell ⟨a,5,none⟩ (.int .i64 u)).setCell ⟨a,6,none⟩ (.string v)).heap[D]?=some (.cells #[.int .i64 0,.int .i64 0,.slice none 0 0,.slice none 0 0,.int .i64 0,.int .i64 0] 26 (0,0))):=⟨CZ ah.o x.o⟩
    have aQ:Ac ((((((((aw.setCell ⟨a,0,none⟩ (.int .i64 m)).setCell ⟨a,1,none⟩ (.int .i64 (wrap64 ((wrap64 (r+(l.length:Int)))+1)))).setCell ⟨a,2,none⟩ (.int .i64 j)).setCell ⟨a,3,none⟩ (.int .i64 q)).setCell ⟨a,4,none⟩ (.int .i64 t)).setCell ⟨a,5,none⟩ (.int .i64 u)).setCell ⟨a,6,none⟩ (.string v)).heap[a]?=some (.cells #[.int .i64 m,.int .i64 (wrap64 ((wrap64 (r+(l.length:Int)))+1)),.int .i64 j,.int .i64 q,.int .i64 t,.int .i64 u,.string v] 32 (0,0))):=⟨IB d.o⟩
    have aR:Ac (Below w.heap.size w (((((((aw.setCell ⟨a,0,none⟩ (.int .i64 m)).setCell ⟨a,1,none⟩ (.int .i64 (wrap64 ((wrap64 (r+(l.length:Int)))+1)))).setCell ⟨a,2,none⟩ (.int .i64 j)).setCell ⟨a,3,none⟩ (.int .i64 q)).setCell ⟨a,4,none⟩ (.int .i64 t)).setCell ⟨a,5,none⟩ (.int .i64 u)).setCell ⟨a,6,none⟩ (.string v))):=⟨Ag⟩
    generalize (((((((aw.setCell ⟨a,0,none⟩ (.int .i64 m)).setCell ⟨a,1,none⟩ (.int .i64 (wrap64 ((wrap64 (r+(l.length:Int)))+1)))).setCell ⟨a,2,none⟩ (.int .i64 j)).setCell ⟨a,3,none⟩ (.int .i64 q)).setCell ⟨a,4,none⟩ (.int .i64 t)).setCell ⟨a,5,none⟩ (.int .i64 u)).setCell ⟨a,6,none⟩ (.string v))=hn at n0_ aJ aK aM aN aQ aR⊢;have G:=n0_;have I:=aJ;have c:=aK;have i:=aM;have x:=aN;have d:=aQ;have HB:=aR;clear n0_ aJ aK aM aN aQ aR;replace G:=a_ (Kd.D_ G.o);replace I:=a_ (Kd.D_ I.o);replace c:=a_ (Du c.o);replace i:=a_ (Du i.o);replace x:=a_ (Du x.o);replace d:=a_ (Du d.o);replace HB:=a_ (Ay HB.o);refine Cl (n:=19) (S:=λw'=>w'.cell? ⟨a,0,none⟩=some (.int .i64 m)∧w'.cell? ⟨a,1,none⟩=some (.int .i64 (wrap64 ((wrap64 (r+(l.length:Int)))+1)))∧w'.cell? ⟨a,2,none⟩=some (.int .i64 j)∧w'.cell? ⟨a,3,none⟩=some (.int .i64 q)∧w'.cell? ⟨a,4,none⟩=some (.int .i64 t)∧w'.cell? ⟨a,5,none⟩=some (.int .i64 u)∧w'.cell? ⟨a,6,none⟩=some (.string v)∧w'.cell? ⟨z,0,none⟩=some (.int .i64 j)∧w'.cell? ⟨z,1,none⟩=some (.int .i64 q)∧w'.cell? ⟨z,2,none⟩=some (.int .i64 t)∧w'.cell? ⟨z,3,none⟩=some (.int .i64 u)∧w'.cell? ⟨z,4,none⟩=some (.string v)) (ds:=[]) #[false,false,false,false,false,false,false,false,false,false,false,false,false,false,false,false,false,false,false] (by kernel_rfl) rfl rfl ⟨(Ax d.o 0).trans rfl,(Ax d.o 1).trans rfl,(Ax d.o 2).trans rfl,(Ax d.o 3).trans rfl,(Ax d.o 4).trans rfl,(Ax d.o 5).trans rfl,(Ax d.o 6).trans rfl,(Ax i.o 0).trans rfl,(Ax i.o 1).trans rfl,(Ax i.o 2).trans rfl,(Ax i.o 3).trans rfl,(Ax i.o 4).trans rfl⟩ (λY=>?_);refine B1 AK.I8 AK.Gr (λHT_ HW_=>?_);generalize hn.drew=hM at G I c i x d HB Y⊢;refine O_ 0 24 Y ?_;refine E7 1 25 (λK hK=>?_);refine C7 TE (by kernel_rfl) rfl #[.agg #[.int .i64 m,.int .i64 (wrap64 ((wrap64 (r+(l.length:Int)))+1)),.int .i64 j,.int .i64 q,.int .i64 t,.int .i64 u,.string v]] (by rfl) rfl rfl JV ?_;with_reducible refine(CD.calls k m (wrap64 ((wrap64 (r+(l.length:Int)))+1)) j q t u v true _ bj.o ?q').mono ?_
    (case q'=>exact Cm.below HG.o (Ag));rintro e hO ⟨rfl,O⟩;refine⟨_,rfl,?_⟩;replace G:=a_ (Kd.AJ (AV G.o) O);replace I:=a_ (Kd.AJ (AV I.o) O);replace HB:=Bw O;replace c:=a_ (Cr c.o O);replace i:=a_ (Cr i.o O);replace x:=a_ (Cr x.o O);replace d:=a_ (Cr d.o O);try clear O
    refine hK.out _ _ ⟨(Ax d.o 0).trans rfl,(Ax d.o 1).trans rfl,(Ax d.o 2).trans rfl,(Ax d.o 3).trans rfl,(Ax d.o 4).trans rfl,(Ax d.o 5).trans rfl,(Ax d.o 6).trans rfl,(Ax i.o 0).trans rfl,(Ax i.o 1).trans rfl,(Ax i.o 2).trans rfl,(Ax i.o 3).trans rfl,(Ax i.o 4).trans rfl⟩ (λY=>?_);clear hK K;refine Er 25 ?_;refine Bf 2 26 ?_;refine Bf 3 27 ?_;refine Bf 4 28 ?_;refine O_ 5 29 Y ?_;refine Bf 6 30 ?_;refine Bf 7 31 ?_;refine DD 8 32 ?_;refine DD 9 33 ?_;refine DD 10 34 ?_;refine DD 11 35 ?_;refine DD 12 36 ?_;refine DD 13 37 ?_;refine DD 14 38 ?_;refine DD 15 39 ?_;refine DD 16 40 ?_;refine Bf 17 41 ?_;refine Bf 18 42 ?_;refine CV (CT HT_.o (by kernel_rfl)) ?_;try go_wp2
    go_meet
    exact⟨_,(false),(CA),H',⟨by first|omega|exact RB _⟩,⟨by refine AV ?_;exact G.o⟩,⟨by refine AV ?_;exact I.o⟩,⟨Bc c.o⟩,⟨Bc i.o⟩,⟨Bc x.o⟩,⟨Bc d.o⟩,⟨Ag⟩⟩
   replace a7:=RE.mpr a7;subst a7;have H1:(AK.j0 k true m M E l r J j q t u v m (wrap64 ((wrap64 (r+(l.length:Int)))+1)) j q t u v)=some (r1,r2,r3,r4,r5,r6,r7):=by rw[Rz (show¬ (false=true) by decide)]at H;exact H
   clear H;have H:=H1;clear H1;have H':=a_ H;clear H;try go_wp2
   have n0_:Ac (Kd.R Dd 68 (((((((aw.setCell ⟨a,0,none⟩ (.int .i64 m)).setCell ⟨a,1,none⟩ (.int .i64 (wrap64 ((wrap64 (r+(l.length:Int)))+1)))).setCell ⟨a,2,none⟩ (.int .i64 j)).setCell ⟨a,3,none⟩ (.int .i64 q)).setCell ⟨a,4,none⟩ (.int .i64 t)).setCell ⟨a,5,none⟩ (.int .i64 u)).setCell ⟨a,6,none⟩ (.string v)) w.heap.size (λ_=>True) (.slice T E.length U) E):=⟨by refine AV ?_;exact Kd.Ai (Mv (g:=a) (Kd.Aj G.o d.o (by decide)) (λ_ X=>X.2) (.int .i64 m) (.int .i64 (wrap64 ((wrap64 (r+(l.length:Int)))+1))) (.int .i64 j) (.int .i64 q) (.int .i64 t) (.int .i64 u) (.string v)) (λ_ X=>trivial)⟩
   have aJ:Ac (Kd.R Ck 32 (((((((aw.setCell ⟨a,0,none⟩ (.int .i64 m)).setCell ⟨a,1,none⟩ (.int .i64 (wrap64 ((wrap64 (r+(l.length:Int)))+1)))).setCell ⟨a,2,none⟩ (.int .i64 j)).setCell ⟨a,3,none⟩ (.int .i64 q)).setCell ⟨a,4,none⟩ (.int .i64 t)).setCell ⟨a,5,none⟩ (.int .i64 u)).setCell ⟨a,6,none⟩ (.string v)) w.heap.size (λk_=>k_≠a) (.slice ab l.length ae) l):=⟨by refine AV ?_;exact Kd.Ai (Mv (g:=a) (Kd.Ai I.o (λk_ X=>(⟨X,X.2⟩:_∧k_≠a))) (λ_ X=>X.2) (.int .i64 m) (.int .i64 (wrap64 ((wrap64 (r+(l.length:Int)))+1))) (.int .i64 j) (.int .i64 q) (.int .i64 t) (.int .i64 u) (.string v)) (λ_ X=>X.1.2)⟩
   have aK:Ac ((((((((aw.setCell ⟨a,0,none⟩ (.int .i64 m)).setCell ⟨a,1,none⟩ (.int .i64 (wrap64 ((wrap64 (r+(l.length:Int)))+1)))).setCell ⟨a,2,none⟩ (.int .i64 j)).setCell ⟨a,3,none⟩ (.int .i64 q)).setCell ⟨a,4,none⟩ (.int .i64 t)).setCell ⟨a,5,none⟩ (.int .i64 u)).setCell ⟨a,6,none⟩ (.string v)).heap[y]?=some (.cells #[.int .i64 m,.int .i64 M,.slice T E.length U,.slice ab l.length ae,.int .i64 r,.int .i64 J] 26 (0,0))):=⟨CZ ag.o c.o⟩
   have aM:Ac ((((((((aw.setCell ⟨a,0,none⟩ (.int .i64 m)).setCell ⟨a,1,none⟩ (.int .i64 (wrap64 ((wrap64 (r+(l.length:Int)))+1)))).setCell ⟨a,2,none⟩ (.int .i64 j)).setCell ⟨a,3,none⟩ (.int .i64 q)).setCell ⟨a,4,none⟩ (.int .i64 t)).setCell ⟨a,5,none⟩ (.int .i64 u)).setCell ⟨a,6,none⟩ (.string v)).heap[z]?=some (.cells #[.int .i64 j,.int .i64 q,.int .i64 t,.int .i64 u,.string v] 30 (0,0))):=⟨CZ au.o i.o⟩
   have aN:Ac ((((((((aw.setCell ⟨a,0,none⟩ (.int .i64 m)).setCell ⟨a,1,none⟩ (.int .i64 (wrap64 ((wrap64 (r+(l.length:Int)))+1)))).setCell ⟨a,2,none⟩ (.int .i64 j)).setCell ⟨a,3,none⟩ (.int .i64 q)).setCell ⟨a,4,none⟩ (.int .i64 t)).setCell ⟨a,5,none⟩ (.int .i64 u)).setCell ⟨a,6,none⟩ (.string v)).heap[D]?=some (.cells #[.int .i64 0,.int .i64 0,.slice none 0 0,.slice none 0 0,.int .i64 0,.int .i64 0] 26 (0,0))):=⟨CZ ah.o x.o⟩
   have aQ:Ac ((((((((aw.setCell ⟨a,0,none⟩ (.int .i64 m)).setCell ⟨a,1,none⟩ (.int .i64 (wrap64 ((wrap64 (r+(l.length:Int)))+1)))).setCell ⟨a,2,none⟩ (.int .i64 j)).setCell ⟨a,3,none⟩ (.int .i64 q)).setCell ⟨a,4,none⟩ (.int .i64 t)).setCell ⟨a,5,none⟩ (.int .i64 u)).setCell ⟨a,6,none⟩ (.string v)).heap[a]?=some (.cells #[.int .i64 m,.int .i64 (wrap64 ((wrap64 (r+(l.length:Int)))+1)),.int .i64 j,.int .i64 q,.int .i64 t,.int .i64 u,.string v] 32 (0,0))):=⟨IB d.o⟩
   have aR:Ac (Below w.heap.size w (((((((aw.setCell ⟨a,0,none⟩ (.int .i64 m)).setCell ⟨a,1,none⟩ (.int .i64 (wrap64 ((wrap64 (r+(l.length:Int)))+1)))).setCell ⟨a,2,none⟩ (.int .i64 j)).setCell ⟨a,3,none⟩ (.int .i64 q)).setCell ⟨a,4,none⟩ (.int .i64 t)).setCell ⟨a,5,none⟩ (.int .i64 u)).setCell ⟨a,6,none⟩ (.string v))):=⟨Ag⟩
   generalize (((((((aw.setCell ⟨a,0,none⟩ (.int .i64 m)).setCell ⟨a,1,none⟩ (.int .i64 (wrap64 ((wrap64 (r+(l.length:Int)))+1)))).setCell ⟨a,2,none⟩ (.int .i64 j)).setCell ⟨a,3,none⟩ (.int .i64 q)).setCell ⟨a,4,none⟩ (.int .i64 t)).setCell ⟨a,5,none⟩ (.int .i64 u)).setCell ⟨a,6,none⟩ (.string v))=hp at n0_ aJ aK aM aN aQ aR⊢;have G:=n0_;have I:=aJ;have c:=aK;have i:=aM;have x:=aN;have d:=aQ;have HB:=aR;clear n0_ aJ aK aM aN aQ aR;replace G:=a_ (Kd.D_ G.o);replace I:=a_ (Kd.D_ I.o);replace c:=a_ (Du c.o);replace i:=a_ (Du i.o);replace x:=a_ (Du x.o);replace d:=a_ (Du d.o);replace HB:=a_ (Ay HB.o);refine Cl (n:=19) (S:=λw'=>w'.cell? ⟨a,0,none⟩=some (.int .i64 m)∧w'.cell? ⟨a,1,none⟩=some (.int .i64 (wrap64 ((wrap64 (r+(l.length:Int)))+1)))∧w'.cell? ⟨a,2,none⟩=some (.int .i64 j)∧w'.cell? ⟨a,3,none⟩=some (.int .i64 q)∧w'.cell? ⟨a,4,none⟩=some (.int .i64 t)∧w'.cell? ⟨a,5,none⟩=some (.int .i64 u)∧w'.cell? ⟨a,6,none⟩=some (.string v)) (ds:=[]) #[false,false,false,false,false,false,false,false,false,false,false,false,false,false,false,false,false,false,false] (by kernel_rfl) rfl rfl ⟨(Ax d.o 0).trans rfl,(Ax d.o 1).trans rfl,(Ax d.o 2).trans rfl,(Ax d.o 3).trans rfl,(Ax d.o 4).trans rfl,(Ax d.o 5).trans rfl,(Ax d.o 6).trans rfl⟩ (λY=>?_);refine B1 AK.I8 AK.Gr (λHT_ HW_=>?_);generalize hp.drew=hP at G I c i x d HB Y⊢;refine IE 0 24 Y ?_;refine E7 1 25 (λK hK=>?_);refine C7 TE (by kernel_rfl) rfl #[.agg #[.int .i64 m,.int .i64 (wrap64 ((wrap64 (r+(l.length:Int)))+1)),.int .i64 j,.int .i64 q,.int .i64 t,.int .i64 u,.string v]] (by rfl) rfl rfl JV ?_;with_reducible refine(CD.calls k m (wrap64 ((wrap64 (r+(l.length:Int)))+1)) j q t u v false _ bj.o ?q').mono ?_
   (case q'=>exact Cm.below HG.o (Ag));rintro e hQ ⟨rfl,O⟩;refine⟨_,rfl,?_⟩;replace G:=a_ (Kd.AJ (AV G.o) O);replace I:=a_ (Kd.AJ (AV I.o) O);replace HB:=Bw O;replace c:=a_ (Cr c.o O);replace i:=a_ (Cr i.o O);replace x:=a_ (Cr x.o O);replace d:=a_ (Cr d.o O);try clear O
   refine hK.out _ _ ⟨(Ax d.o 0).trans rfl,(Ax d.o 1).trans rfl,(Ax d.o 2).trans rfl,(Ax d.o 3).trans rfl,(Ax d.o 4).trans rfl,(Ax d.o 5).trans rfl,(Ax d.o 6).trans rfl⟩ (λY=>?_);clear hK K;refine Er 25 ?_;refine Bf 2 26 ?_;refine Bf 3 27 ?_;refine DD 4 28 ?_;refine DD 5 29 ?_;refine DD 6 30 ?_;refine DD 7 31 ?_;refine DD 8 32 ?_;refine DD 9 33 ?_;refine DD 10 34 ?_;refine DD 11 35 ?_;refine DD 12 36 ?_;refine DD 13 37 ?_;refine DD 14 38 ?_;refine DD 15 39 ?_;refine DD 16 40 ?_;refine DD 17 41 ?_;refine Bf 18 42 ?_;refine CV (CT HT_.o (by kernel_rfl)) ?_;try go_wp2
   go_meet
   exact⟨_,(true),(CA),H',⟨by first|omega|exact RB _⟩,⟨by refine AV ?_;exact G.o⟩,⟨by refine AV ?_;exact I.o⟩,⟨Bc c.o⟩,⟨Bc i.o⟩,⟨Bc x.o⟩,⟨Bc d.o⟩,⟨Ag⟩⟩
  clear bq;try clear c1
  try clear a7
  try clear aX
  try clear aH
  try clear a8
  obtain⟨kq,aU,rfl,HA,hy,af,B,c,i,x,d,HB⟩:=hcut;cases kq with
  | zero=>exact absurd HA.o (by simp[AK.j0])
  | succ hA =>
   have H:=HA.o
   clear HA
   simp only[AK.j0]at H
   by_cases be:aU=true
   ·subst be
    have H1:(some (m,M,E,l,r,J,false))=some (r1,r2,r3,r4,r5,r6,r7):=by rw[Ry rfl]at H;exact H
    clear H
    have H:=H1
    clear H1
    simp only[Option.some.injEq,Prod.mk.injEq]at H
    obtain⟨rfl,rfl,rfl,rfl,rfl,rfl,rfl⟩:=H
    have gv:=ao.o
    have gV:=P.o
    have gw:=aq.o
    have gW:=L.o
    have gx:=ag.o
    have gX:=aD.o
    obtain⟨eJ,eK,eL,eM,eN,eO,cr,ct,cu,cv,cw,cx⟩:=BT (W:=wc) c.o
    have gy:=av.o
    have gY:=ar.o
    have gz:=ah.o
    have gZ:=aE.o
    obtain⟨eP,eQ,eR,eS,eT,eU,cy,cz,cA,cB,cC,cD⟩:=BT (W:=wc) x.o
    go_wp2
    refine RH (CJ rfl _ _ D 26 #[.int .i64 m,.int .i64 M,.slice T E.length U,.slice ab l.length ae,.int .i64 r,.int .i64 J] (0,0) _ rfl (F4 x.o) RP rfl (by kernel_rfl)) rfl ?_
    exact⟨_,_,C8,by refine AV ?_;exact Kd.Ai (Dw (g:=D) (Kd.Aj af.o x.o (by decide)) (λ_ X=>X.2) (.int .i64 m) (.int .i64 M) (.slice T E.length U) (.slice ab l.length ae) (.int .i64 r) (.int .i64 J)) (λ_ X=>trivial),by refine AV ?_;exact Kd.Ai (Dw (g:=D) (Kd.Aj B.o x.o (by decide)) (λ_ X=>X.2) (.int .i64 m) (.int .i64 M) (.slice T E.length U) (.slice ab l.length ae) (.int .i64 r) (.int .i64 J)) (λ_ X=>trivial),Ag⟩
   ·replace be:=RE.mpr be
    subst be
    have H1:(if l.length<2199023255552 then((some (l++[(⟨m,(wrap64 ((wrap64 (r+(l.length:Int)))+1)),(⟨j,q,t,u,v⟩:E0)⟩:AQ)]:List (AQ))).bind λaC=>(if j=1 then(some (m,M,E,aC,r,wrap64 (J+1),true))else(some (m,M,E,aC,r,J,true))))else(none))=some (r1,r2,r3,r4,r5,r6,r7):=by rw[Rz (show¬ (false=true) by decide)]at H;exact H
    clear H
    have H:=H1
    clear H1
    by_cases bf:l.length<2199023255552
    ·rw[Ry bf]at H
     have a5:=a_ bf
     clear bf
     obtain⟨aC,hy_⟩:=EM (l++[(⟨m,(wrap64 ((wrap64 (r+(l.length:Int)))+1)),(⟨j,q,t,u,v⟩:E0)⟩:AQ)])
     replace H:(if j=1 then(some (m,M,E,aC,r,wrap64 (J+1),true))else(some (m,M,E,aC,r,J,true)))=some (r1,r2,r3,r4,r5,r6,r7):=EN
     have a6:=a_ hy_
     clear hy_
     by_cases a4:j=1
     ·rw[Ry a4]at H
      have br:(j==1)=true:=RO.mpr a4
      have bu:(j != 1)=false:=Fc a4
      clear a4
      simp only[Option.some.injEq,Prod.mk.injEq]at H
      obtain⟨rfl,rfl,rfl,rfl,rfl,rfl,rfl⟩:=H
      have gA:=ao.o
      have g0:=P.o
      have gB:=aq.o
      have g1:=L.o
      have gC:=ag.o
      have g2:=aD.o
      obtain⟨eV,eW,eX,eY,eZ,e0,cE,cF,cG,cH,cI,cJ⟩:=BT (W:=wc) c.o
      have gD:=aG.o
      have g3:=au.o
      have gE:=aE.o
      have g4:=ah.o
      obtain⟨e1,e2,e3,e4,e5,e6,e7,cK,cL,cM,cN,cO,cP,cQ⟩:=DC (W:=wc) d.o
      go_wp2_with(first|((with_reducible refine Bo (b:=.append) (xs:=#[.tmp 45,.tmp 47]) rfl ?_);at_builtin;refine Kd.ES Ck (w0:=w) w.heap.size rfl (.tmp 45) (.tmp 47) 24 32 (.agg #[(.int .i64 0),(.int .i64 0),(.int .i64 0),(.int .i64 0),(.int .i64 0),(.int .i64 0),(.string ⟨#[]⟩)]) 64 rfl R8 Dv rfl (by decide) (by omega) (.slice ab l.length ae) l (⟨m,(wrap64 ((wrap64 (r+(l.length:Int)))+1)),(⟨j,q,t,u,v⟩:E0)⟩:AQ) [.int .i64 m,.int .i64 (wrap64 ((wrap64 (r+(l.length:Int)))+1)),.int .i64 j,.int .i64 q,.int .i64 t,.int .i64 u,.string v] (λk_=>k_≠a) (λ_=>False) rfl rfl ?aP (λ_ X=>X.elim) ?aF ?aO ?aB ?aS ?aL ?_;(case aP=>exact EX _ _ _ (⟨m,(wrap64 ((wrap64 (r+(l.length:Int)))+1)),(⟨j,q,t,u,v⟩:E0)⟩:AQ));(case aB=>exact(Ag));(case aF=>exact(λk_ X=>Kd.Dk (g:=a) (o:=.cells #[.int .i64 m,.int .i64 (wrap64 ((wrap64 (r+(l.length:Int)))+1)),.int .i64 j,.int .i64 q,.int .i64 t,.int .i64 u,.string v] 32 (0,0)) (Bc d.o) k_ X));(case aO=>exact(AV B.o));(case aS=>exact(Af (Ag)));(case aL=>have:=a5.o;omega);intro bJ hS ho O hg bw;rw[<-a6.o]at ho;replace af:=a_ (Kd.DL (AV af.o) (Kd.Ca (AV B.o)) (by decide) hg);replace c:=a_ (AO (g:=y) (o:=.cells #[.int .i64 m,.int .i64 M,.slice T E.length U,.slice ab l.length ae,.int .i64 r,.int .i64 J] 26 (0,0)) (Bc c.o) hg (Kd.EY B.o c.o (by decide)));replace i:=a_ (AO (g:=z) (o:=.cells #[.int .i64 j,.int .i64 q,.int .i64 t,.int .i64 u,.string v] 30 (0,0)) (Bc i.o) hg (Kd.EY B.o i.o (by decide)));replace x:=a_ (AO (g:=D) (o:=.cells #[.int .i64 0,.int .i64 0,.slice none 0 0,.slice none 0 0,.int .i64 0,.int .i64 0] 26 (0,0)) (Bc x.o) hg (Kd.EY B.o x.o (by decide)));replace d:=a_ (AO (g:=a) (o:=.cells #[.int .i64 m,.int .i64 (wrap64 ((wrap64 (r+(l.length:Int)))+1)),.int .i64 j,.int .i64 q,.int .i64 t,.int .i64 u,.string v] 32 (0,0)) (Bc d.o) hg (Kd.Gn B.o (λ_ X=>X)));replace HB:=a_ (O);have aI:=a_ (ho);clear B;clear ho O hg bw;obtain⟨aV,aY,bC⟩:=Kd.Be aI.o;subst bC;obtain⟨e8,e9,e_,fa,fb,fc,cR,cS,cT,cU,cV,cW⟩:=BT c.o;have gF:=ar.o;have g5:=av.o;obtain⟨fe,fg,fh,fi,fj,cX,cY,cZ,c0,c_⟩:=CI i.o;obtain⟨fk,fl,fm,fo,fp,fq,da,db,dc,dd,de,df⟩:=BT x.o))
      refine RH (CJ rfl _ _ D 26 #[.int .i64 m,.int .i64 M,.slice T E.length U,.slice aV aC.length aY,.int .i64 r,.int .i64 (wrap64 (J+1))] (0,0) _ rfl (Hu L.o x.o) RP rfl (by kernel_rfl)) rfl ?_
      exact⟨_,_,C8,by refine AV ?_;exact Kd.Ai (Dw (g:=D) (Kd.CS (p:=⟨y,5,none⟩) (Kd.CS (p:=⟨y,3,none⟩) (Kd.Aj (Kd.Aj af.o c.o (by decide)) x.o (by decide)) (λ_ X=>X.1.2) (.slice aV aC.length aY)) (λ_ X=>X.1.2) (.int .i64 (wrap64 (J+1)))) (λ_ X=>X.2) (.int .i64 m) (.int .i64 M) (.slice T E.length U) (.slice aV aC.length aY) (.int .i64 r) (.int .i64 (wrap64 (J+1)))) (λ_ X=>trivial),by refine AV ?_;exact Kd.Ai (Dw (g:=D) (Kd.CS (p:=⟨y,5,none⟩) (Kd.CS (p:=⟨y,3,none⟩) (Kd.Aj (Kd.Aj aI.o c.o (by decide)) x.o (by decide)) (λ_ X=>X.1.2) (.slice aV aC.length aY)) (λ_ X=>X.1.2) (.int .i64 (wrap64 (J+1)))) (λ_ X=>X.2) (.int .i64 m) (.int .i64 M) (.slice T E.length U) (.slice aV aC.length aY) (.int .i64 r) (.int .i64 (wrap64 (J+1)))) (λ_ X=>trivial),Ag⟩
     ·rw[Rz a4]at H
      have br:(j==1)=false:=Dr a4
      have bu:(j != 1)=true:=RX.mpr a4
      simp only[Option.some.injEq,Prod.mk.injEq]at H
      obtain⟨rfl,rfl,rfl,rfl,rfl,rfl,rfl⟩:=H
      have gG:=ao.o
      have g6:=P.o
      have gH:=aq.o
      have g7:=L.o
      have gI:=ag.o
      have g8:=aD.o
      obtain⟨ft,fu,fv,fw,fx,fy,dg,dh,di,dj,dk,dm⟩:=BT (W:=wc) c.o
      have gJ:=aG.o
      have g9:=au.o
      have gK:=aE.o
      have g_:=ah.o
      obtain⟨fz,fA,fB,fC,fD,fE,fF,dn,dp,dq,dr,du,dv,dw⟩:=DC (W:=wc) d.o
      go_wp2_with(first|((with_reducible refine Bo (b:=.append) (xs:=#[.tmp 45,.tmp 47]) rfl ?_);at_builtin;refine Kd.ES Ck (w0:=w) w.heap.size rfl (.tmp 45) (.tmp 47) 24 32 (.agg #[(.int .i64 0),(.int .i64 0),(.int .i64 0),(.int .i64 0),(.int .i64 0),(.int .i64 0),(.string ⟨#[]⟩)]) 64 rfl R8 Dv rfl (by decide) (by omega) (.slice ab l.length ae) l (⟨m,(wrap64 ((wrap64 (r+(l.length:Int)))+1)),(⟨j,q,t,u,v⟩:E0)⟩:AQ) [.int .i64 m,.int .i64 (wrap64 ((wrap64 (r+(l.length:Int)))+1)),.int .i64 j,.int .i64 q,.int .i64 t,.int .i64 u,.string v] (λk_=>k_≠a) (λ_=>False) rfl rfl ?aP (λ_ X=>X.elim) ?aF ?aO ?aB ?aS ?aL ?_;(case aP=>exact EX _ _ _ (⟨m,(wrap64 ((wrap64 (r+(l.length:Int)))+1)),(⟨j,q,t,u,v⟩:E0)⟩:AQ));(case aB=>exact(Ag));(case aF=>exact(λk_ X=>Kd.Dk (g:=a) (o:=.cells #[.int .i64 m,.int .i64 (wrap64 ((wrap64 (r+(l.length:Int)))+1)),.int .i64 j,.int .i64 q,.int .i64 t,.int .i64 u,.string v] 32 (0,0)) (Bc d.o) k_ X));(case aO=>exact(AV B.o));(case aS=>exact(Af (Ag)));(case aL=>have:=a5.o;omega);intro bJ hT ho O hg bw;rw[<-a6.o]at ho;replace af:=a_ (Kd.DL (AV af.o) (Kd.Ca (AV B.o)) (by decide) hg);replace c:=a_ (AO (g:=y) (o:=.cells #[.int .i64 m,.int .i64 M,.slice T E.length U,.slice ab l.length ae,.int .i64 r,.int .i64 J] 26 (0,0)) (Bc c.o) hg (Kd.EY B.o c.o (by decide)));replace i:=a_ (AO (g:=z) (o:=.cells #[.int .i64 j,.int .i64 q,.int .i64 t,.int .i64 u,.string v] 30 (0,0)) (Bc i.o) hg (Kd.EY B.o i.o (by decide)));replace x:=a_ (AO (g:=D) (o:=.cells #[.int .i64 0,.int .i64 0,.slice none 0 0,.slice none 0 0,.int .i64 0,.int .i64 0] 26 (0,0)) (Bc x.o) hg (Kd.EY B.o x.o (by decide)));replace d:=a_ (AO (g:=a) (o:=.cells #[.int .i64 m,.int .i64 (wrap64 ((wrap64 (r+(l.length:Int)))+1)),.int .i64 j,.int .i64 q,.int .i64 t,.int .i64 u,.string v] 32 (0,0)) (Bc d.o) hg (Kd.Gn B.o (λ_ X=>X)));replace HB:=a_ (O);have aI:=a_ (ho);clear B;clear ho O hg bw;obtain⟨aW,aZ,bD⟩:=Kd.Be aI.o;subst bD;obtain⟨fG,fH,fI,fJ,fK,fL,dx,dy,dz,dA,dB,dC⟩:=BT c.o;have gL:=ar.o;have ha:=av.o;obtain⟨fM,fN,fO,fP,fQ,dD,dE,dF,dG,dH⟩:=CI i.o;obtain⟨fR,fS,fT,fU,fV,fW,dI,dJ,dK,dL,dM,dN⟩:=BT x.o))
      refine RH (CJ rfl _ _ D 26 #[.int .i64 m,.int .i64 M,.slice T E.length U,.slice aW aC.length aZ,.int .i64 r,.int .i64 J] (0,0) _ rfl (Hu L.o x.o) RP rfl (by kernel_rfl)) rfl ?_
      exact⟨_,_,C8,by refine AV ?_;exact Kd.Ai (Dw (g:=D) (Kd.CS (p:=⟨y,3,none⟩) (Kd.Aj (Kd.Aj af.o c.o (by decide)) x.o (by decide)) (λ_ X=>X.1.2) (.slice aW aC.length aZ)) (λ_ X=>X.2) (.int .i64 m) (.int .i64 M) (.slice T E.length U) (.slice aW aC.length aZ) (.int .i64 r) (.int .i64 J)) (λ_ X=>trivial),by refine AV ?_;exact Kd.Ai (Dw (g:=D) (Kd.CS (p:=⟨y,3,none⟩) (Kd.Aj (Kd.Aj aI.o c.o (by decide)) x.o (by decide)) (λ_ X=>X.1.2) (.slice aW aC.length aZ)) (λ_ X=>X.2) (.int .i64 m) (.int .i64 M) (.slice T E.length U) (.slice aW aC.length aZ) (.int .i64 r) (.int .i64 J)) (λ_ X=>trivial),Ag⟩
    ·rw[Rz bf]at H
     exact absurd H (by simp)
 replace c4:=RE.mpr c4;subst c4;have H1:(some (0,0,([]:List (Ba)),([]:List (AQ)),0,0,false))=some (r1,r2,r3,r4,r5,r6,r7):=by rw[Rz (show¬ (false=true) by decide)]at H;exact H
 clear H;have H:=H1;clear H1;simp only[Option.some.injEq,Prod.mk.injEq]at H;obtain⟨rfl,rfl,rfl,rfl,rfl,rfl,rfl⟩:=H;go_enter Tryd.func10,Tryd.ntmps10;go_wp2_with(first|((with_reducible refine BV (N:=2) rfl ?_);refine Cy 2 (#[.int .i64 aj,.int .i64 ak,.slice ax Z.length az,.slice ay aa.length aA,.int .i64 al,.int .i64 an]) 26 ?_;intro y hg hU ai O;have c:=a_ (ai);have bn:=BD w hg;have bk:=BD w hg;replace HB:=Bw O;clear O ai hg)|((with_reducible refine BV (N:=3) rfl ?_);refine Cy 3 (#[.int .i64 j,.int .i64 q,.int .i64 t,.int .i64 u,.string v]) 30 ?_;intro z hg hV ai O;have i:=a_ (ai);have bo:=BD w hg;have bl:=BD w hg;have ao:=a_ ((by rw[hg];exact RN (Av (g:=y) (o:=.cells #[.int .i64 aj,.int .i64 ak,.slice ax Z.length az,.slice ay aa.length aA,.int .i64 al,.int .i64 an] 26 (0,0)) (Bc c.o)):y≠z));have P:=a_ ((by rw[hg];exact RM (Av (g:=y) (o:=.cells #[.int .i64 aj,.int .i64 ak,.slice ax Z.length az,.slice ay aa.length aA,.int .i64 al,.int .i64 an] 26 (0,0)) (Bc c.o)):z≠y));replace c:=a_ (Cr c.o O);replace HB:=Bw O;clear O ai hg)|((with_reducible refine BV (N:=4) rfl ?_);refine Cy 4 (#[.int .i64 0,.int .i64 0,.slice none 0 0,.slice none 0 0,.int .i64 0,.int .i64 0]) 26 ?_;intro D hg hW ai O;have x:=a_ (ai);have bp:=BD w hg;have bm:=BD w hg;have aq:=a_ ((by rw[hg];exact RN (Av (g:=y) (o:=.cells #[.int .i64 aj,.int .i64 ak,.slice ax Z.length az,.slice ay aa.length aA,.int .i64 al,.int .i64 an] 26 (0,0)) (Bc c.o)):y≠D));have L:=a_ ((by rw[hg];exact RM (Av (g:=y) (o:=.cells #[.int .i64 aj,.int .i64 ak,.slice ax Z.length az,.slice ay aa.length aA,.int .i64 al,.int .i64 an] 26 (0,0)) (Bc c.o)):D≠y));have ar:=a_ ((by rw[hg];exact RN (Av (g:=z) (o:=.cells #[.int .i64 j,.int .i64 q,.int .i64 t,.int .i64 u,.string v] 30 (0,0)) (Bc i.o)):z≠D));have av:=a_ ((by rw[hg];exact RM (Av (g:=z) (o:=.cells #[.int .i64 j,.int .i64 q,.int .i64 t,.int .i64 u,.string v] 30 (0,0)) (Bc i.o)):D≠z));replace c:=a_ (Cr c.o O);replace i:=a_ (Cr i.o O);replace HB:=Bw O;clear O ai hg;have gM:=ao.o;have hc:=P.o;have gN:=aq.o;have hd:=L.o;obtain⟨fX,fY,fZ,f_,ga,gb,dO,dP,dQ,dR,dS,dT⟩:=BT c.o)|((with_reducible refine BQ (f:=6) rfl ?_);refine BW 8 Tryd.func6 #[.agg #[.int .i64 aj,.int .i64 ak,.slice ax Z.length az,.slice ay aa.length aA,.int .i64 al,.int .i64 an]] ?_;(with_reducible refine(Am.calls k aj ak _ _ Z _ _ aa al an false _ ?q' ?z' ?y' ?v' A3.o ?m').mono ?_);(case q'=>exact F0 a2.o);(case z'=>exact a0.o);(case y'=>exact E9 (Kd.Bu a3.o HB.o));(case v'=>exact a1.o);(case m'=>exact Cm.below HG.o (Ag));rintro e hX ⟨rfl,O⟩;refine⟨_,rfl,?_⟩;replace HB:=Bw O;replace c:=a_ (Cr c.o O);replace i:=a_ (Cr i.o O);replace x:=a_ (Cr x.o O);(try clear O);have gO:=av.o;have hf:=ar.o;obtain⟨gf,gg,gh,gi,gj,gl,dU,dV,dW,dX,dY,dZ⟩:=BT x.o));refine RH (CJ rfl _ _ D 26 #[.int .i64 0,.int .i64 0,.slice none 0 0,.slice none 0 0,.int .i64 0,.int .i64 0] (0,0) _ rfl (F4 x.o) RP rfl (by kernel_rfl)) rfl ?_;exact⟨_,_,C8,by first|exact Kd.He _ _ _ _ _|exact Kd.N_nil _ _ _ _ _|exact Kd.Ip _ _ _ _ _|exact Kd.Q_nil _ _ _ _ _|exact Kd.Jq _ _ _ _ _,by first|exact Kd.He _ _ _ _ _|exact Kd.N_nil _ _ _ _ _|exact Kd.Ip _ _ _ _ _|exact Kd.Q_nil _ _ _ _ _|exact Kd.Jq _ _ _ _ _,Ag⟩
theorem QE(d:Nat)(w:World)(a e:Int)(b g:Int)(c i:ByteArray) :
  (Op.equalIn (d+2) 68 (.agg #[.int .i64 a,.int .i64 b,.string c]) (.agg #[.int .i64 e,.int .i64 g,.string i])).run Tryd.prog w=.ok (a==e&&(b==g&&(c.toList==i.toList))) w:=by refine K8 SI (by kernel_rfl) ?_;refine Fq (by rfl) (by go_simp;rfl) (by go_simp;rfl) (by go_simp) ?_;refine Fq (by rfl) (by go_simp;rfl) (by go_simp;rfl) (by go_simp) ?_;exact I0 (by rfl) (by go_simp;rfl) (by go_simp;rfl) (by go_simp)
attribute [local go_sem high] Ky QE
def Cs.l0:Nat->List (Ba)->List (Ba)->Int->Option (Bool)
 | 0,_,_,_=>none
 | k+1,b,c,a=>if a<(b.length:Int)then(if 0≤a then(if a<(c.length:Int)then(if(!(((Ae b a).f0)==((Ae c a).f0)) || (!(((Ae b a).f1)==((Ae c a).f1)) || (!((((Ae b a).f2).toList)==(((Ae c a).f2).toList)))))=true then(some false)else(Cs.l0 k b c (wrap64 (a+1))))else(none))else(none))else(some true)
def Cs.f(k:Nat)(l0:List (Ba))(l1:List (Ba)):Option (Bool):=if(l0.length:Int)=(l1.length:Int)then(Cs.l0 k l0 l1 0)else(some false)
theorem Cs.calls(k:Nat)(P:Option Addr)(U:Nat)(l0:List (Ba))(T:Option Addr)(O:Nat)(l1:List (Ba))(r:Bool)(w:World)(J:Kd.C Dd w P l0.length l0)(G:l0.length≤U)(K:Kd.C Dd w T l1.length l1)(I:l1.length≤O)(h:Cs.f k l0 l1=some r) :
  Calls Tryd.prog 29 #[.slice P l0.length U,.slice T l1.length O] w λe w'=>e=.returned (.bool r)∧As w w':=by
 have Y:=SI;have A:=a_ J;have aa:=a_ G;clear J G;have B:=a_ K;have ab:=a_ I;clear K I;unfold Cs.f at h;have H:=h;clear h;by_cases c3:(l0.length:Int)=(l1.length:Int)
 ·rw[Ry c3]at H;have t:((l0.length:Int)==(l1.length:Int))=true:=RO.mpr c3;have u:((l0.length:Int) != (l1.length:Int))=false:=Fc c3;have v:(l0.length==l1.length)=true:=by first|simpa using c3|(simp at c3⊢;omega)
  clear c3;have L:=a_ H;clear H;go_enter Tryd.func29,Tryd.ntmps29;go_wp2;repeat(go_quiet(fail);try go_wp2)
  go_loopg [5] k (λZ v5 w'=>∃(a:Int),v5=.int .i64 a∧Ac (Cs.l0 Z l0 l1 a=some r)∧Ac (Z≤k)∧As w w')
  case atStart=>exact⟨(0),(CA),L,⟨RB _⟩,by repeat(first|exact As.refl _|apply As.step)⟩
  clear L;try clear O
  try clear c3
  try clear t
  try clear u
  try clear v
  obtain⟨a,rfl,M,z,⟨m1,rfl⟩⟩:=hrel;cases gk with
  | zero=>exact absurd M.o (by simp[Cs.l0])
  | succ k1 =>
   have H:=M.o
   clear M
   simp only[Cs.l0]at H
   by_cases c4:a<(l0.length:Int)
   ·rw[Ry c4]at H
    have D:decide (a<(l0.length:Int))=true:=BM c4
    clear c4
    by_cases c5:0≤a
    ·rw[Ry c5]at H
     have W:decide (0≤a)=true:=BM c5
     clear c5
     by_cases c6:a<(l1.length:Int)
     ·rw[Ry c6]at H
      have X:decide (a<(l1.length:Int))=true:=BM c6
      clear c6
      by_cases c7:(!(((Ae l0 a).f0)==((Ae l1 a).f0)) || (!(((Ae l0 a).f1)==((Ae l1 a).f1)) || (!((((Ae l0 a).f2).toList)==(((Ae l1 a).f2).toList)))))=true
      ·rw[Ry c7]at H
       have E:(!(((Ae l0 a).f0)==((Ae l1 a).f0)) || (!(((Ae l0 a).f1)==((Ae l1 a).f1)) || (!((((Ae l0 a).f2).toList)==(((Ae l1 a).f2).toList)))))=true:=c7
       clear c7
       obtain rfl:=CW H
       have b:0≤(a:Int):=Bv
       have d:a<(l0.length:Int):=Bv
       obtain⟨x,i,l,m,n⟩:=BZ A.o a b d
       cases i
       replace b:=RA b
       replace d:=RA d
       have c:0≤(a:Int):=Bv
       have g:a<(l1.length:Int):=Bv
       obtain⟨y,j,o,p,q⟩:=BZ B.o a c g
       cases j
       replace c:=RA c
       replace g:=RA g
       go_wp2
       repeat(go_quiet(fail);try go_wp2)
       go_ret
       exact⟨CA,by repeat(first|exact As.refl _|apply As.step)⟩
      ·rw[Rz c7]at H
       have E:(!(((Ae l0 a).f0)==((Ae l1 a).f0)) || (!(((Ae l0 a).f1)==((Ae l1 a).f1)) || (!((((Ae l0 a).f2).toList)==(((Ae l1 a).f2).toList)))))=false:=by simpa using c7
       clear c7
       have L:=a_ H
       clear H
       have b:0≤(a:Int):=Bv
       have d:a<(l0.length:Int):=Bv
       obtain⟨x,i,l,m,n⟩:=BZ A.o a b d
       cases i
       replace b:=RA b
       replace d:=RA d
       have c:0≤(a:Int):=Bv
       have g:a<(l1.length:Int):=Bv
       obtain⟨y,j,o,p,q⟩:=BZ B.o a c g
       cases j
       replace c:=RA c
       replace g:=RA g
       go_wp2
       repeat(go_quiet(fail);try go_wp2)
       go_roundg k1
       case measure=>have:=z.o;omega
       case rel=>exact⟨(wrap64 (a+1)),(CA),L,⟨by have:=z.o;omega⟩,by repeat(first|exact As.refl _|apply As.step)⟩
     ·rw[Rz c6]at H
      exact absurd H (by simp)
    ·rw[Rz c5]at H
     exact absurd H (by simp)
   ·rw[Rz c4]at H
    have D:decide (a<(l0.length:Int))=false:=C9 c4
    clear c4
    obtain rfl:=CW H
    go_wp2
    repeat(go_quiet(fail);try go_wp2)
    go_ret
    exact⟨CA,by repeat(first|exact As.refl _|apply As.step)⟩
 rw[Rz c3]at H;have t:((l0.length:Int)==(l1.length:Int))=false:=Dr c3;have u:((l0.length:Int) != (l1.length:Int))=true:=RX.mpr c3;have v:(l0.length==l1.length)=false:=by first|simpa using c3|(simp at c3⊢;omega)
 obtain rfl:=CW H;go_enter Tryd.func29,Tryd.ntmps29;go_wp2;repeat(go_quiet(fail);try go_wp2)
 go_ret;exact⟨CA,by repeat(first|exact As.refl _|apply As.step)⟩
def CG.l0:Nat->List (AQ)->List (AQ)->Int->Option (Bool)
 | 0,_,_,_=>none
 | k+1,b,c,a=>if a<(b.length:Int)then(if 0≤a then(if a<(c.length:Int)then(if(!(((Aa b a).f0)==((Aa c a).f0)) || (!(((Aa b a).f1)==((Aa c a).f1)) || ((!(((Aa b a).f2.f0)==((Aa c a).f2.f0)) || (!(((Aa b a).f2.f1)==((Aa c a).f2.f1)) || (!(((Aa b a).f2.f2)==((Aa c a).f2.f2)) || (!(((Aa b a).f2.f3)==((Aa c a).f2.f3)) || (!((((Aa b a).f2.f4).toList)==(((Aa c a).f2.f4).toList))))))))))=true then(some false)else(CG.l0 k b c (wrap64 (a+1))))else(none))else(none))else(some true)
def CG.f(k:Nat)(l0:List (AQ))(l1:List (AQ)):Option (Bool):=if(l0.length:Int)=(l1.length:Int)then(CG.l0 k l0 l1 0)else(some false)
theorem CG.calls(k:Nat)(A0:Option Addr)(c0:Nat)(l0:List (AQ))(A1:Option Addr)(c1:Nat)(l1:List (AQ))(r:Bool)(w:World)(W:Kd.C Ck w A0 l0.length l0)(T:l0.length≤c0)(X:Kd.C Ck w A1 l1.length l1)(U:l1.length≤c1)(h:CG.f k l0 l1=some r) :
  Calls Tryd.prog 30 #[.slice A0 l0.length c0,.slice A1 l1.length c1] w λe w'=>e=.returned (.bool r)∧As w w':=by
 have ae:=Sk;have L:=a_ W;have af:=a_ T;clear W T;have M:=a_ X;have ag:=a_ U;clear X U;unfold CG.f at h;have H:=h;clear h;by_cases c3:(l0.length:Int)=(l1.length:Int)
 ·rw[Ry c3]at H;have D:((l0.length:Int)==(l1.length:Int))=true:=RO.mpr c3;have E:((l0.length:Int) != (l1.length:Int))=false:=Fc c3;have G:(l0.length==l1.length)=true:=by first|simpa using c3|(simp at c3⊢;omega)
  clear c3;have Y:=a_ H;clear H;go_enter Tryd.func30,Tryd.ntmps30;go_wp2;repeat(go_quiet(fail);try go_wp2)
  go_loopg [5] k (λkq v5 w'=>∃(a:Int),v5=.int .i64 a∧Ac (CG.l0 kq l0 l1 a=some r)∧Ac (kq≤k)∧As w w')
  case atStart=>exact⟨(0),(CA),Y,⟨RB _⟩,by repeat(first|exact As.refl _|apply As.step)⟩
  clear Y;try clear c1
  try clear c3
  try clear D
  try clear E
  try clear G
  obtain⟨a,rfl,Z,K,⟨m1,rfl⟩⟩:=hrel;cases gk with
  | zero=>exact absurd Z.o (by simp[CG.l0])
  | succ k1 =>
   have H:=Z.o
   clear Z
   simp only[CG.l0]at H
   by_cases c4:a<(l0.length:Int)
   ·rw[Ry c4]at H
    have O:decide (a<(l0.length:Int))=true:=BM c4
    clear c4
    by_cases c5:0≤a
    ·rw[Ry c5]at H
     have aa:decide (0≤a)=true:=BM c5
     clear c5
     by_cases c6:a<(l1.length:Int)
     ·rw[Ry c6]at H
      have ab:decide (a<(l1.length:Int))=true:=BM c6
      clear c6
      by_cases c7:(!(((Aa l0 a).f0)==((Aa l1 a).f0)) || (!(((Aa l0 a).f1)==((Aa l1 a).f1)) || ((!(((Aa l0 a).f2.f0)==((Aa l1 a).f2.f0)) || (!(((Aa l0 a).f2.f1)==((Aa l1 a).f2.f1)) || (!(((Aa l0 a).f2.f2)==((Aa l1 a).f2.f2)) || (!(((Aa l0 a).f2.f3)==((Aa l1 a).f2.f3)) || (!((((Aa l0 a).f2.f4).toList)==(((Aa l1 a).f2.f4).toList))))))))))=true
      ·rw[Ry c7]at H
       have P:(!(((Aa l0 a).f0)==((Aa l1 a).f0)) || (!(((Aa l0 a).f1)==((Aa l1 a).f1)) || ((!(((Aa l0 a).f2.f0)==((Aa l1 a).f2.f0)) || (!(((Aa l0 a).f2.f1)==((Aa l1 a).f2.f1)) || (!(((Aa l0 a).f2.f2)==((Aa l1 a).f2.f2)) || (!(((Aa l0 a).f2.f3)==((Aa l1 a).f2.f3)) || (!((((Aa l0 a).f2.f4).toList)==(((Aa l1 a).f2.f4).toList))))))))))=true:=c7
       clear c7
       obtain rfl:=CW H
       have b:0≤(a:Int):=Bv
       have d:a<(l0.length:Int):=Bv
       obtain⟨I,i,l,m,n,o,p,q,t⟩:=CQ L.o a b d
       cases i
       replace b:=RA b
       replace d:=RA d
       have c:0≤(a:Int):=Bv
       have g:a<(l1.length:Int):=Bv
       obtain⟨J,j,u,v,x,y,z,A,B⟩:=CQ M.o a c g
       cases j
       replace c:=RA c
       replace g:=RA g
       go_wp2
       repeat(go_quiet(fail);try go_wp2)
       go_ret
       exact⟨CA,by repeat(first|exact As.refl _|apply As.step)⟩
      ·rw[Rz c7]at H
       have P:(!(((Aa l0 a).f0)==((Aa l1 a).f0)) || (!(((Aa l0 a).f1)==((Aa l1 a).f1)) || ((!(((Aa l0 a).f2.f0)==((Aa l1 a).f2.f0)) || (!(((Aa l0 a).f2.f1)==((Aa l1 a).f2.f1)) || (!(((Aa l0 a).f2.f2)==((Aa l1 a).f2.f2)) || (!(((Aa l0 a).f2.f3)==((Aa l1 a).f2.f3)) || (!((((Aa l0 a).f2.f4).toList)==(((Aa l1 a).f2.f4).toList))))))))))=false:=by simpa using c7
       clear c7
       have Y:=a_ H
       clear H
       have b:0≤(a:Int):=Bv
       have d:a<(l0.length:Int):=Bv
       obtain⟨I,i,l,m,n,o,p,q,t⟩:=CQ L.o a b d
       cases i
       replace b:=RA b
       replace d:=RA d
       have c:0≤(a:Int):=Bv
       have g:a<(l1.length:Int):=Bv
       obtain⟨J,j,u,v,x,y,z,A,B⟩:=CQ M.o a c g
       cases j
       replace c:=RA c
       replace g:=RA g
       go_wp2
       repeat(go_quiet(fail);try go_wp2)
       go_roundg k1
       case measure=>have:=K.o;omega
       case rel=>exact⟨(wrap64 (a+1)),(CA),Y,⟨by have:=K.o;omega⟩,by repeat(first|exact As.refl _|apply As.step)⟩
     ·rw[Rz c6]at H
      exact absurd H (by simp)
    ·rw[Rz c5]at H
     exact absurd H (by simp)
   ·rw[Rz c4]at H
    have O:decide (a<(l0.length:Int))=false:=C9 c4
    clear c4
    obtain rfl:=CW H
    go_wp2
    repeat(go_quiet(fail);try go_wp2)
    go_ret
    exact⟨CA,by repeat(first|exact As.refl _|apply As.step)⟩
 rw[Rz c3]at H;have D:((l0.length:Int)==(l1.length:Int))=false:=Dr c3;have E:((l0.length:Int) != (l1.length:Int))=true:=RX.mpr c3;have G:(l0.length==l1.length)=false:=by first|simpa using c3|(simp at c3⊢;omega)
 obtain rfl:=CW H;go_enter Tryd.func30,Tryd.ntmps30;go_wp2;repeat(go_quiet(fail);try go_wp2)
 go_ret;exact⟨CA,by repeat(first|exact As.refl _|apply As.step)⟩
def BH.f(k:Nat)(a:Int)(b:Int)(l:List (Ba))(m:List (AQ))(c:Int)(d:Int)(e:Int)(g:Int)(n:List (Ba))(o:List (AQ))(i:Int)(j:Int):Option (Bool):=if a=e then(if b=g then((Cs.f k l n).bind λp=>(if p=true then((CG.f k m o).bind λq=>(if q=true then(if c=i then(some (d==j))else(some false))else(some false)))else(some false)))else(some false))else(some false)
theorem BH.calls(k:Nat)(n:Int)(p:Int)(u:Option Addr)(x:Nat)(l:List (Ba))(v:Option Addr)(y:Nat)(m:List (AQ))(j:Int)(t:Int)(E:Int)(G:Int)(K:Option Addr)(M:Nat)(B:List (Ba))(L:Option Addr)(O:Nat)(D:List (AQ))(A:Int)(J:Int)(r:Bool)(w:World)(al:Kd.C Dd w u l.length l)(ah:l.length≤x)(an:Kd.C Ck w v m.length m)(ai:m.length≤y)(ao:Kd.C Dd w K B.length B)(aj:B.length≤M)(aq:Kd.C Ck w L D.length D)(ak:D.length≤O)(h:BH.f k n p l m j t E G B D A J=some r) :
  Calls Tryd.prog 11 #[.agg #[.int .i64 n,.int .i64 p,.slice u l.length x,.slice v m.length y,.int .i64 j,.int .i64 t],.agg #[.int .i64 E,.int .i64 G,.slice K B.length M,.slice L D.length O,.int .i64 A,.int .i64 J]] w λe w'=>e=.returned (.bool r)∧Below w.heap.size w w':=by
 have dA:=RP;have Z:=a_ al;have X:=a_ ah;clear al ah;have af:=a_ an;have ab:=a_ ai;clear an ai;have aa:=a_ ao;have Y:=a_ aj;clear ao aj;have ag:=a_ aq;have ae:=a_ ak;clear aq ak;have HB:=a_ (RG w.heap.size w);unfold BH.f at h;have H:=h;clear h;by_cases c3:n=E
 ·rw[Ry c3]at H;have aw:(n==E)=true:=RO.mpr c3;have ax:(n != E)=false:=Fc c3;clear c3;by_cases c4:p=G
  ·rw[Ry c4]at H;have ay:(p==G)=true:=RO.mpr c4;have az:(p != G)=false:=Fc c4;clear c4;replace H:=BR H;obtain⟨aC,au,H⟩:=H;try dsimp only at H
   have A5:=a_ au;clear au;by_cases c6:aC=true
   ·subst c6;have H1:((CG.f k m D).bind λar=>(if ar=true then(if j=A then(some (t==J))else(some false))else(some false)))=some r:=by rw[Ry rfl]at H;exact H
    clear H;have H:=H1;clear H1;replace H:=BR H;obtain⟨ar,av,H⟩:=H;try dsimp only at H
    have A7:=a_ av;clear av;by_cases c8:ar=true
    ·subst c8;have H1:(if j=A then(some (t==J))else(some false))=some r:=by rw[Ry rfl]at H;exact H
     clear H;have H:=H1;clear H1;by_cases c9:j=A
     ·rw[Ry c9]at H;have aA:(j==A)=true:=RO.mpr c9;have aB:(j != A)=false:=Fc c9;clear c9;obtain rfl:=CW H;go_enter Tryd.func11,Tryd.ntmps11;go_wp2_with(first|((with_reducible refine BV (N:=2) rfl ?_);refine Cy 2 (#[.int .i64 n,.int .i64 p,.slice u l.length x,.slice v m.length y,.int .i64 j,.int .i64 t]) 26 ?_;intro b hg dB c I;have a:=a_ (c);have U:=BD w hg;have P:=BD w hg;replace HB:=Bw I;clear I c hg)|((with_reducible refine BV (N:=3) rfl ?_);refine Cy 3 (#[.int .i64 E,.int .i64 G,.slice K B.length M,.slice L D.length O,.int .i64 A,.int .i64 J]) 26 ?_;intro q hg dC c I;have z:=a_ (c);have W:=BD w hg;have T:=BD w hg;have d:=a_ ((by rw[hg];exact RN (Av (g:=b) (o:=.cells #[.int .i64 n,.int .i64 p,.slice u l.length x,.slice v m.length y,.int .i64 j,.int .i64 t] 26 (0,0)) (Bc a.o)):b≠q));have i:=a_ ((by rw[hg];exact RM (Av (g:=b) (o:=.cells #[.int .i64 n,.int .i64 p,.slice u l.length x,.slice v m.length y,.int .i64 j,.int .i64 t] 26 (0,0)) (Bc a.o)):q≠b));replace a:=a_ (Cr a.o I);replace HB:=Bw I;clear I c hg;have dk:=d.o;have du:=i.o;obtain⟨bS,bT,bU,bV,bW,bX,aD,aE,aF,aG,aH,aI⟩:=BT a.o;obtain⟨bY,bZ,b6,b7,b8,b9,aJ,aK,aL,aM,aN,aO⟩:=BT z.o)|(go_at_call 29;(with_reducible refine(Cs.calls k _ _ l _ _ B true _ ?q' ?z' ?y' ?v' A5.o).mono ?_);(case q'=>exact F0 Z.o);(case z'=>exact X.o);(case y'=>exact E9 (Kd.Bu aa.o HB.o));(case v'=>exact Y.o);rintro e w' ⟨rfl,⟨nd,rfl⟩⟩)|(go_at_call 30;(with_reducible refine(CG.calls k _ _ m _ _ D true _ ?q' ?z' ?y' ?v' A7.o).mono ?_);(case q'=>repeat(first|exact(Kd.Bu af.o (Ag))|(with_reducible refine Kd.C_alloc ?_ _)|(with_reducible refine Kd.B_ ?_ _)|(with_reducible refine Kd.C_drew ?_)));(case z'=>exact ab.o);(case y'=>repeat(first|exact(Kd.Bu ag.o (Ag))|(with_reducible refine Kd.C_alloc ?_ _)|(with_reducible refine Kd.B_ ?_ _)|(with_reducible refine Kd.C_drew ?_)));(case v'=>exact ae.o);rintro e w' ⟨rfl,⟨nd,rfl⟩⟩));go_ret;exact⟨C8,Ag⟩
     rw[Rz c9]at H;have aA:(j==A)=false:=Dr c9;have aB:(j != A)=true:=RX.mpr c9;obtain rfl:=CW H;go_enter Tryd.func11,Tryd.ntmps11;go_wp2_with(first|((with_reducible refine BV (N:=2) rfl ?_);refine Cy 2 (#[.int .i64 n,.int .i64 p,.slice u l.length x,.slice v m.length y,.int .i64 j,.int .i64 t]) 26 ?_;intro b hg dD c I;have a:=a_ (c);have U:=BD w hg;have P:=BD w hg;replace HB:=Bw I;clear I c hg)|((with_reducible refine BV (N:=3) rfl ?_);refine Cy 3 (#[.int .i64 E,.int .i64 G,.slice K B.length M,.slice L D.length O,.int .i64 A,.int .i64 J]) 26 ?_;intro q hg dE c I;have z:=a_ (c);have W:=BD w hg;have T:=BD w hg;have d:=a_ ((by rw[hg];exact RN (Av (g:=b) (o:=.cells #[.int .i64 n,.int .i64 p,.slice u l.length x,.slice v m.length y,.int .i64 j,.int .i64 t] 26 (0,0)) (Bc a.o)):b≠q));have i:=a_ ((by rw[hg];exact RM (Av (g:=b) (o:=.cells #[.int .i64 n,.int .i64 p,.slice u l.length x,.slice v m.length y,.int .i64 j,.int .i64 t] 26 (0,0)) (Bc a.o)):q≠b));replace a:=a_ (Cr a.o I);replace HB:=Bw I;clear I c hg;have dm:=d.o;have dv:=i.o;obtain⟨b_,ca,cb,cd,cf,cg,aP,aQ,aR,aS,aT,aU⟩:=BT a.o;obtain⟨cj,ck,cl,cm,cn,cp,aV,aW,aX,aY,aZ,a0⟩:=BT z.o)|(go_at_call 29;(with_reducible refine(Cs.calls k _ _ l _ _ B true _ ?q' ?z' ?y' ?v' A5.o).mono ?_);(case q'=>exact F0 Z.o);(case z'=>exact X.o);(case y'=>exact E9 (Kd.Bu aa.o HB.o));(case v'=>exact Y.o);rintro e w' ⟨rfl,⟨nd,rfl⟩⟩)|(go_at_call 30;(with_reducible refine(CG.calls k _ _ m _ _ D true _ ?q' ?z' ?y' ?v' A7.o).mono ?_);(case q'=>repeat(first|exact(Kd.Bu af.o (Ag))|(with_reducible refine Kd.C_alloc ?_ _)|(with_reducible refine Kd.B_ ?_ _)|(with_reducible refine Kd.C_drew ?_)));(case z'=>exact ab.o);(case y'=>repeat(first|exact(Kd.Bu ag.o (Ag))|(with_reducible refine Kd.C_alloc ?_ _)|(with_reducible refine Kd.B_ ?_ _)|(with_reducible refine Kd.C_drew ?_)));(case v'=>exact ae.o);rintro e w' ⟨rfl,⟨nd,rfl⟩⟩));go_ret;exact⟨C8,Ag⟩
    replace c8:=RE.mpr c8;subst c8;have H1:(some false)=some r:=by rw[Rz (show¬ (false=true) by decide)]at H;exact H
    clear H;have H:=H1;clear H1;obtain rfl:=CW H;go_enter Tryd.func11,Tryd.ntmps11;go_wp2_with(first|((with_reducible refine BV (N:=2) rfl ?_);refine Cy 2 (#[.int .i64 n,.int .i64 p,.slice u l.length x,.slice v m.length y,.int .i64 j,.int .i64 t]) 26 ?_;intro b hg dF c I;have a:=a_ (c);have U:=BD w hg;have P:=BD w hg;replace HB:=Bw I;clear I c hg)|((with_reducible refine BV (N:=3) rfl ?_);refine Cy 3 (#[.int .i64 E,.int .i64 G,.slice K B.length M,.slice L D.length O,.int .i64 A,.int .i64 J]) 26 ?_;intro q hg dG c I;have z:=a_ (c);have W:=BD w hg;have T:=BD w hg;have d:=a_ ((by rw[hg];exact RN (Av (g:=b) (o:=.cells #[.int .i64 n,.int .i64 p,.slice u l.length x,.slice v m.length y,.int .i64 j,.int .i64 t] 26 (0,0)) (Bc a.o)):b≠q));have i:=a_ ((by rw[hg];exact RM (Av (g:=b) (o:=.cells #[.int .i64 n,.int .i64 p,.slice u l.length x,.slice v m.length y,.int .i64 j,.int .i64 t] 26 (0,0)) (Bc a.o)):q≠b));replace a:=a_ (Cr a.o I);replace HB:=Bw I;clear I c hg;have dn:=d.o;have dw:=i.o;obtain⟨cq,cr,ct,cu,cv,cw,a1,a2,a3,a4,a5,a6⟩:=BT a.o;obtain⟨cx,cy,cz,cA,cB,cC,a7,a8,a9,ba,bb,bc⟩:=BT z.o)|(go_at_call 29;(with_reducible refine(Cs.calls k _ _ l _ _ B true _ ?q' ?z' ?y' ?v' A5.o).mono ?_);(case q'=>exact F0 Z.o);(case z'=>exact X.o);(case y'=>exact E9 (Kd.Bu aa.o HB.o));(case v'=>exact Y.o);rintro e w' ⟨rfl,⟨nd,rfl⟩⟩)|(go_at_call 30;(with_reducible refine(CG.calls k _ _ m _ _ D false _ ?q' ?z' ?y' ?v' A7.o).mono ?_);(case q'=>repeat(first|exact(Kd.Bu af.o (Ag))|(with_reducible refine Kd.C_alloc ?_ _)|(with_reducible refine Kd.B_ ?_ _)|(with_reducible refine Kd.C_drew ?_)));(case z'=>exact ab.o);(case y'=>repeat(first|exact(Kd.Bu ag.o (Ag))|(with_reducible refine Kd.C_alloc ?_ _)|(with_reducible refine Kd.B_ ?_ _)|(with_reducible refine Kd.C_drew ?_)));(case v'=>exact ae.o);rintro e w' ⟨rfl,⟨nd,rfl⟩⟩));go_ret;exact⟨C8,Ag⟩
   replace c6:=RE.mpr c6;subst c6;have H1:(some false)=some r:=by rw[Rz (show¬ (false=true) by decide)]at H;exact H
   clear H;have H:=H1;clear H1;obtain rfl:=CW H;go_enter Tryd.func11,Tryd.ntmps11;go_wp2_with(first|((with_reducible refine BV (N:=2) rfl ?_);refine Cy 2 (#[.int .i64 n,.int .i64 p,.slice u l.length x,.slice v m.length y,.int .i64 j,.int .i64 t]) 26 ?_;intro b hg dH c I;have a:=a_ (c);have U:=BD w hg;have P:=BD w hg;replace HB:=Bw I;clear I c hg)|((with_reducible refine BV (N:=3) rfl ?_);refine Cy 3 (#[.int .i64 E,.int .i64 G,.slice K B.length M,.slice L D.length O,.int .i64 A,.int .i64 J]) 26 ?_;intro q hg dI c I;have z:=a_ (c);have W:=BD w hg;have T:=BD w hg;have d:=a_ ((by rw[hg];exact RN (Av (g:=b) (o:=.cells #[.int .i64 n,.int .i64 p,.slice u l.length x,.slice v m.length y,.int .i64 j,.int .i64 t] 26 (0,0)) (Bc a.o)):b≠q));have i:=a_ ((by rw[hg];exact RM (Av (g:=b) (o:=.cells #[.int .i64 n,.int .i64 p,.slice u l.length x,.slice v m.length y,.int .i64 j,.int .i64 t] 26 (0,0)) (Bc a.o)):q≠b));replace a:=a_ (Cr a.o I);replace HB:=Bw I;clear I c hg;have dp:=d.o;have dx:=i.o;obtain⟨cD,cE,cF,cG,cH,cI,bd,be,bf,bg,bh,bj⟩:=BT a.o;obtain⟨cJ,cK,cL,cM,cN,cO,bk,bl,bm,bn,bo,bp⟩:=BT z.o)|(go_at_call 29;(with_reducible refine(Cs.calls k _ _ l _ _ B false _ ?q' ?z' ?y' ?v' A5.o).mono ?_);(case q'=>exact F0 Z.o);(case z'=>exact X.o);(case y'=>exact E9 (Kd.Bu aa.o HB.o));(case v'=>exact Y.o);rintro e w' ⟨rfl,⟨nd,rfl⟩⟩));go_ret;exact⟨C8,Ag⟩
  rw[Rz c4]at H;have ay:(p==G)=false:=Dr c4;have az:(p != G)=true:=RX.mpr c4;obtain rfl:=CW H;go_enter Tryd.func11,Tryd.ntmps11;go_wp2_with(first|((with_reducible refine BV (N:=2) rfl ?_);refine Cy 2 (#[.int .i64 n,.int .i64 p,.slice u l.length x,.slice v m.length y,.int .i64 j,.int .i64 t]) 26 ?_;intro b hg dJ c I;have a:=a_ (c);have U:=BD w hg;have P:=BD w hg;replace HB:=Bw I;clear I c hg)|((with_reducible refine BV (N:=3) rfl ?_);refine Cy 3 (#[.int .i64 E,.int .i64 G,.slice K B.length M,.slice L D.length O,.int .i64 A,.int .i64 J]) 26 ?_;intro q hg dK c I;have z:=a_ (c);have W:=BD w hg;have T:=BD w hg;have d:=a_ ((by rw[hg];exact RN (Av (g:=b) (o:=.cells #[.int .i64 n,.int .i64 p,.slice u l.length x,.slice v m.length y,.int .i64 j,.int .i64 t] 26 (0,0)) (Bc a.o)):b≠q));have i:=a_ ((by rw[hg];exact RM (Av (g:=b) (o:=.cells #[.int .i64 n,.int .i64 p,.slice u l.length x,.slice v m.length y,.int .i64 j,.int .i64 t] 26 (0,0)) (Bc a.o)):q≠b));replace a:=a_ (Cr a.o I);replace HB:=Bw I;clear I c hg;have dq:=d.o;have dy:=i.o;obtain⟨cP,cQ,cR,cS,cT,cU,bq,br,bu,bw,bx,bz⟩:=BT a.o;obtain⟨cV,cW,cX,cY,cZ,c0,bA,bB,bC,bD,bE,bF⟩:=BT z.o));go_ret;exact⟨C8,Ag⟩
 rw[Rz c3]at H;have aw:(n==E)=false:=Dr c3;have ax:(n != E)=true:=RX.mpr c3;obtain rfl:=CW H;go_enter Tryd.func11,Tryd.ntmps11;go_wp2_with(first|((with_reducible refine BV (N:=2) rfl ?_);refine Cy 2 (#[.int .i64 n,.int .i64 p,.slice u l.length x,.slice v m.length y,.int .i64 j,.int .i64 t]) 26 ?_;intro b hg dL c I;have a:=a_ (c);have U:=BD w hg;have P:=BD w hg;replace HB:=Bw I;clear I c hg)|((with_reducible refine BV (N:=3) rfl ?_);refine Cy 3 (#[.int .i64 E,.int .i64 G,.slice K B.length M,.slice L D.length O,.int .i64 A,.int .i64 J]) 26 ?_;intro q hg dM c I;have z:=a_ (c);have W:=BD w hg;have T:=BD w hg;have d:=a_ ((by rw[hg];exact RN (Av (g:=b) (o:=.cells #[.int .i64 n,.int .i64 p,.slice u l.length x,.slice v m.length y,.int .i64 j,.int .i64 t] 26 (0,0)) (Bc a.o)):b≠q));have i:=a_ ((by rw[hg];exact RM (Av (g:=b) (o:=.cells #[.int .i64 n,.int .i64 p,.slice u l.length x,.slice v m.length y,.int .i64 j,.int .i64 t] 26 (0,0)) (Bc a.o)):q≠b));replace a:=a_ (Cr a.o I);replace HB:=Bw I;clear I c hg;have dr:=d.o;have dz:=i.o;obtain⟨c1,c_,da,db,dc,dd,bG,bH,bI,bJ,bK,bL⟩:=BT a.o;obtain⟨de,df,dg,dh,di,dj,bM,bN,bO,bP,bQ,bR⟩:=BT z.o));go_ret;exact⟨C8,Ag⟩
def AZ.j0:Nat->Bool->Bool->Bool->Int->Int->List (Ba)->List (AQ)->Int->Int->Int->Int->Int->Int->ByteArray->Int->Int->List (Ba)->List (AQ)->Int->Int->Int->Int->List (Ba)->List (AQ)->Int->Int->Option (Bool)
 | 0,_,_,_,_,_,_,_,_,_,_,_,_,_,_,_,_,_,_,_,_,_,_,_,_,_,_=>none
 | k+1,K,y,J,e,n,o,c,d,a,p,q,E,G,I,r,t,u,v,w,x,g,i,j,l,m,b=>if J=true then(if(y==K)=true then((BH.f k g i j l m b r t u v w x).bind λz=>(some z))else(none))else(if p=1 then((CE.f e (wrap64 (a+1))).bind λA=>(if(wrap64 (d+(c.length:Int)))<40 then(if(y==(A==q))=true then(if y=true then(if b=(wrap64 (a+1))then(some true)else(none))else((BH.f k g i j l m b e n o c d a).bind λB=>(some B)))else(none))else(if(y==false)=true then(if y=true then(if b=(wrap64 (a+1))then(some true)else(none))else((BH.f k g i j l m b e n o c d a).bind λD=>(some D)))else(none))))else(if(y==(decide ((wrap64 (d+(c.length:Int)))<40)))=true then(some (b==a))else(none)))
def AZ.f(k:Nat)(l0:List Int):Option (Bool):=if(l0.length:Int)>1048576 then(some true)else((AH.f k l0).bind λa=>((Ci.f k a.1 a.2.1 a.2.2.1 a.2.2.2.1 a.2.2.2.2.1 a.2.2.2.2.2.1 a.2.2.2.2.2.2.1 a.2.2.2.2.2.2.2.1 a.2.2.2.2.2.2.2.2.1 a.2.2.2.2.2.2.2.2.2.1 a.2.2.2.2.2.2.2.2.2.2).bind λb=>((AK.f k a.1 a.2.1 a.2.2.1 a.2.2.2.1 a.2.2.2.2.1 a.2.2.2.2.2.1 a.2.2.2.2.2.2.1 a.2.2.2.2.2.2.2.1 a.2.2.2.2.2.2.2.2.1 a.2.2.2.2.2.2.2.2.2.1 a.2.2.2.2.2.2.2.2.2.2).bind λc=>(if(c.2.2.2.2.2.2 != b.2.2.2.2.2.2)=true then(none)else((BH.f k c.1 c.2.1 c.2.2.1 c.2.2.2.1 c.2.2.2.2.1 c.2.2.2.2.2.1 b.1 b.2.1 b.2.2.1 b.2.2.2.1 b.2.2.2.2.1 b.2.2.2.2.2.1).bind λd=>(if d=true then((Ap.f k a.1 a.2.1 a.2.2.1 a.2.2.2.1 a.2.2.2.2.1 a.2.2.2.2.2.1).bind λe=>(if e=true then((Cf.f k a.2.2.2.2.2.2.1 a.2.2.2.2.2.2.2.1 a.2.2.2.2.2.2.2.2.1 a.2.2.2.2.2.2.2.2.2.1 a.2.2.2.2.2.2.2.2.2.2).bind λg=>(AZ.j0 k b.2.2.2.2.2.2 c.2.2.2.2.2.2 (!g) a.1 a.2.1 a.2.2.1 a.2.2.2.1 a.2.2.2.2.1 a.2.2.2.2.2.1 a.2.2.2.2.2.2.1 a.2.2.2.2.2.2.2.1 a.2.2.2.2.2.2.2.2.1 a.2.2.2.2.2.2.2.2.2.1 a.2.2.2.2.2.2.2.2.2.2 b.1 b.2.1 b.2.2.1 b.2.2.2.1 b.2.2.2.2.1 b.2.2.2.2.2.1 c.1 c.2.1 c.2.2.1 c.2.2.2.1 c.2.2.2.2.1 c.2.2.2.2.2.1))else(AZ.j0 k b.2.2.2.2.2.2 c.2.2.2.2.2.2 true a.1 a.2.1 a.2.2.1 a.2.2.2.1 a.2.2.2.2.1 a.2.2.2.2.2.1 a.2.2.2.2.2.2.1 a.2.2.2.2.2.2.2.1 a.2.2.2.2.2.2.2.2.1 a.2.2.2.2.2.2.2.2.2.1 a.2.2.2.2.2.2.2.2.2.2 b.1 b.2.1 b.2.2.1 b.2.2.2.1 b.2.2.2.2.1 b.2.2.2.2.2.1 c.1 c.2.1 c.2.2.1 c.2.2.2.1 c.2.2.2.2.1 c.2.2.2.2.2.1)))else(none)))))))
end Go.Proofs.YtlhlpfnljglhoaaDoor.P
