/- Joined by programs (wip/shake.py, wip/mini.py). -/
import Derived.Test.YtlhlpfnljglhoaaDoorZCr6
set_option linter.unusedVariables false
set_option linter.unusedSimpArgs false
set_option linter.unusedSectionVars false
set_option maxHeartbeats 8000000
set_option maxRecDepth 100000
open Go.Proofs.YtlhlpfnljglhoaaDoorW
namespace Go.Proofs.YtlhlpfnljglhoaaDoor.P
open Go.RowKit Go.Proofs.YtlhlpfnljglhoaaDoorW.PrintWords Go.Proofs.YtlhlpfnljglhoaaDoorW.Bb Go.Proofs.YtlhlpfnljglhoaaDoorW.Dm
theorem DZ.calls(k:Nat)(g:Nat)(b:List Int)(p:Int)(d0:Dy)(d1:Int)(d2:Bool)(d3:En)(d4:Dz)(p':Int)(w0 w:World)(hI:Ad w0 w g b p)(hB:Below w0.heap.size w0 w)
  (a:DZ.f k b p=some (⟨d0,d1,d2,d3,d4⟩,p')) :
  Calls Tryd.prog 34 #[.pointer (some ⟨g,0,none⟩)] w λe w'=>∃(ay:Value) (O:Option Addr) (U T:Nat) (G:Option Addr) (I c4:Nat),e=.returned (.agg #[.slice O U T,.int .i64 d1,.bool d2,ay,.slice G I c4])∧Cx (El w.heap.size ay d3) w' (λk=>w.heap.size≤k)∧Ad w0 w' g b p'∧Below w0.heap.size w0 w'∧Ah w w' g none:=by
 have aD:=RK;have aC:=Sh;have aB:=RP;unfold DZ.f at a;replace a:=BR a;obtain⟨⟨⟨y0,E,L,m,y4⟩,p1⟩,hp,a⟩:=a;replace a:=BR a;obtain⟨⟨J,p2⟩,l,a⟩:=a;replace a:=BR a;obtain⟨⟨q,p3⟩,hq,a⟩:=a;dsimp only at a;have HP:=a_ hp;have HK:=a_ l;have HQ:=a_ hq;have M:=a_ (Gx.start hI hB);clear hp l hq hI hB;go_enter Tryd.func34,Tryd.ntmps34
 go_upto_region 4 with(first
  | ((with_reducible refine BV (N:=2) rfl ?_);refine Cy 2 (#[.slice none 0 0,.int .i64 0,.bool false,.slice none 0 0,.slice none 0 0]) 64 ?_;intro u hg w1 Z hb;have D:=M.o.box (cs:=[.slice none 0 0,.int .i64 0,.bool false,.slice none 0 0,.slice none 0 0]) hg hb Z;clear M Z hb hg;have M:=a_ D;clear D)
  | (go_at_call 48;(with_reducible refine(Cu.calls k g b p y0 E L m y4 p1 w0 _ M.o.hI M.o.hB HP.o).mono ?_);rintro e w2 ⟨vE,v3,O,U,T,G,I,c4,rfl,hS,hI,hB,l⟩;obtain⟨b0,av⟩:∃x,x=w1.heap.size:=⟨_,rfl⟩;rw[<-av]at hS;obtain⟨b1,ai⟩:∃x,x=w2.heap.size:=⟨_,rfl⟩;have S1:=Kd.CM (Kd.F7 hS) (Fi:=λk=>b0≤k∧k<b1) (λk l=>⟨l.2.1,by rw[ai];exact l.2.2.1⟩);obtain⟨A3,c3,rfl⟩:=Kd.Ep hS;have D:=(M.o.pick hI hB l).Ja (Cx.mono (E1 S1) (λk l e=>by have:=M.o.hl k e;omega));have B:=a_ (show u<b0∧g<b0∧w.heap.size≤b0∧b0≤b1 from⟨by have:=M.o.hl u (by simp);omega,by have:=M.o.hl g (by simp);omega,by have:=M.o.B.hK.1;omega,by have:=l.1;omega⟩);have au:=a_ (show b1≤w2.heap.size from Sd ai);clear M hS S1 hI hB l av ai;have M:=a_ D;clear D)
  | ((with_reducible refine BV (N:=4) rfl ?_);refine Cy 4 (#[.slice none 0 0,.int .i64 0,.bool false,.slice none 0 0,.slice none 0 0]) 64 ?_;intro o hg w3 Z hb;have D:=M.o.box (cs:=[.slice none 0 0,.int .i64 0,.bool false,.slice none 0 0,.slice none 0 0]) hg hb Z;have LG:=a_ (show b1≤o from hg ▸ au.o);clear au;clear M Z hb hg;have M:=a_ D;clear D;obtain⟨z0,z1,z2,Y,z4,y⟩:=M.o.B.c5 0 rfl)
  | ((with_reducible refine Dc (t:=64) (p:=4) rfl ?_);refine CY (t:=64) (p:=4) (v:=?q') (w1:=(((((w3.setCell ⟨o,0,none⟩ (.slice O U T)).setCell ⟨o,1,none⟩ (.int .i64 E)).setCell ⟨o,2,none⟩ (.bool L)).setCell ⟨o,3,none⟩ (.slice A3 m.length c3)).setCell ⟨o,4,none⟩ (.slice G I c4))) ?hg ?ho ?hn ?hr ?_;(case ho=>rfl);(case hg=>rfl);(case hn=>rfl);(case hr=>first|(go_simp;done)|(go_simp;rfl));intro w4 hw;have D:Gx w0 w _ g b _ [o,u,g] [⟨o,[.slice O U T,.int .i64 E,.bool L,.slice A3 m.length c3,.slice G I c4],64⟩,⟨u,[.slice none 0 0,.int .i64 0,.bool false,.slice none 0 0,.slice none 0 0],64⟩] _:=M.o.DW 0 rfl;rw[<-hw]at D;clear M hw z0 z1 z2 Y z4 y;have M:=a_ D;clear D;obtain⟨z0,z1,z2,Y,z4,y⟩:=M.o.B.c5 0 rfl;obtain⟨t0,t1,t2,t3,t4,ty⟩:=M.o.B.c5 1 rfl)
  | (go_at_call 16;(with_reducible refine(Ab.calls k g b p1 3 J p2 w0 _ M.o.hI M.o.hB HK.o).mono ?_);rintro e w5 ⟨rfl,hI,hB,l⟩;have D:=M.o.pick hI hB l;clear M hI hB l z0 z1 z2 Y z4 y t0 t1 t2 t3 t4 ty;have M:=a_ D;clear D;obtain⟨z0,z1,z2,Y,z4,y⟩:=M.o.B.c5 0 rfl;obtain⟨t0,t1,t2,t3,t4,ty⟩:=M.o.B.c5 1 rfl)
  | (go_at_call 16;(with_reducible refine(Ab.calls k g b p2 40 q p3 w0 _ M.o.hI M.o.hB HQ.o).mono ?_);rintro e w6 ⟨rfl,hI,hB,l⟩;have D:=M.o.pick hI hB l;clear M hI hB l z0 z1 z2 Y z4 y t0 t1 t2 t3 t4 ty;have M:=a_ D;clear D;obtain⟨z0,z1,z2,Y,z4,y⟩:=M.o.B.c5 0 rfl;obtain⟨t0,t1,t2,t3,t4,ty⟩:=M.o.B.c5 1 rfl))
 by_cases k0:q=0
 ·rw[Ry k0]at a;replace a:=BR a;obtain⟨⟨r,p4⟩,hr,a⟩:=a;simp only[Option.some.injEq,Prod.mk.injEq,Wd.mk.injEq]at a;obtain⟨⟨rfl,rfl,rfl,rfl,rfl⟩,rfl⟩:=a;have HR:=a_ hr;clear hr;subst k0;go_upto_region 5 with(fail)
  have Md:=a_ M.o.drew;clear M;have M:=Md;clear Md;refine Cl (n:=10) (S:=λw'=>w'.cell? ⟨o,1,none⟩=some (.int .i64 E)) (ds:=[9]) #[false,false,false,false,false,false,false,false,false,false] (by kernel_rfl) rfl rfl (z1) (λz=>?_);refine Bf 0 17 ?_;refine Bf 1 18 ?_;refine Bf 3 20 ?_;refine P0 2 19 z ?_;refine E7 4 21 (λK hK=>?_);refine C7 R0 (by kernel_rfl) rfl #[.pointer (some ⟨g,0,none⟩),.int .i64 3] (by rfl) rfl rfl (by simp only[List.map_toArray,List.map_cons,List.map_nil];rfl) ?_;with_reducible refine(Ab.calls k g b p3 3 r p4 w0 _ M.o.hI M.o.hB HR.o).mono ?_
  rintro e w8 ⟨rfl,hI,hB,l⟩;refine⟨_,rfl,?_⟩;have D:=M.o.pick hI hB l;clear M hI hB l z0 z1 z2 Y z4 y t0 t1 t2 t3 t4 ty;have M:=a_ D;clear D;obtain⟨z0,z1,z2,Y,z4,y⟩:=M.o.B.c5 0 rfl;obtain⟨t0,t1,t2,t3,t4,ty⟩:=M.o.B.c5 1 rfl;refine hK.out _ _ (z1) (λz=>?_);clear hK K;refine Er 21 ?_;refine Bf 5 22 ?_;refine Bf 6 23 ?_;refine Bf 7 24 ?_;refine Bf 8 25 ?_;refine Fe (i:=9) (N:=none) #[true,true,true,true,true,true,true,true,true,true] rfl rfl (by kernel_rfl) (by decide) (λK hK=>?_);refine EL (w1:=?_) (by rfl) rfl ?_ ?_;rotate_left
  ·go_simp;rfl
  refine hK.out _ _ ?_;clear hK K;refine CV (by kernel_rfl) ?_;have X:u≠o:=M.o.B.ne (i:=1) (i':=0) rfl rfl (by decide);have ag:o≠u:=λe=>X e.symm
  go_wp2;have d:Gx w0 w _ g b _ _ [⟨o,[.slice O U T,.int .i64 (wrap64 (wrap64 (E+r)-1)),.bool L,.slice A3 m.length c3,.slice G I c4],64⟩,⟨u,[.slice O U T,.int .i64 (wrap64 (wrap64 (E+r)-1)),.bool L,.slice A3 m.length c3,.slice G I c4],64⟩] _:=(M.o.put 0 1 (.int .i64 (wrap64 (wrap64 (E+r)-1))) rfl).DW 1 rfl;have DB:=d.B.Ex 1 rfl;refine RH (RF rfl _ _ u 64 #[.slice O U T,.int .i64 (wrap64 (wrap64 (E+r)-1)),.bool L,.slice A3 m.length c3,.slice G I c4] (0,0) _ rfl DB RK rfl (by kernel_rfl)) rfl ?_;first|exact⟨_,_,_,_,_,_,_,rfl,Cx.imp (Cx.mono (E1 (Kd.Ea d.now B.o.2.2.1)) (λk l=>RJ B.o.2.2.1 l.1)) (λ_ h=>IX h),d.hI,d.hB,d.CU⟩|exact⟨_,⟨_,_,_,_,_,_,rfl⟩,Cx.imp (Cx.mono (E1 (Kd.Ea d.now B.o.2.2.1)) (λk l=>RJ B.o.2.2.1 l.1)) (λ_ h=>IX h),d.hI,d.hB,d.CU⟩
 rw[Rz k0]at a;have n0:(q==0)=false:=Dr k0;by_cases k1:q=1
 ·rw[Ry k1]at a;by_cases c:0≤J∧J<(m.length:Int)
  ·rw[Ry c]at a;replace a:=BR a;obtain⟨⟨r,p4⟩,hr,a⟩:=a;simp only[Option.some.injEq,Prod.mk.injEq,Wd.mk.injEq]at a;obtain⟨⟨rfl,rfl,rfl,rfl,rfl⟩,rfl⟩:=a;have HR:=a_ hr;clear hr;subst k1;have KK:=a_ c.1;have CK:=a_ c.2;have q2:=RA KK.o;have q3:=RA CK.o;clear c;obtain⟨gc,cap,e3,-⟩:=Kd.KZ M.o.now (by have:=KK.o;have:=CK.o;omega);injection e3 with e3 _ e5;subst e3;clear e5;have GC:=a_ (show gc∉[o,u,g]∧w.heap.size≤gc from by have h1:=(Kd.L_ M.o.now).1 gc (by simp[Value.ownBlock]);have:=B.o;have:=LG.o;refine⟨λe=>?_,by omega⟩;simp only[List.mem_cons,List.not_mem_nil,or_false]at e;rcases e with e|e|e <;> omega);go_upto_region 7 with(fail)
   have Md:=a_ M.o.drew;clear M;have M:=Md;clear Md;refine Cl (n:=8) (S:=λw'=>w'.cell? ⟨o,3,none⟩=some (.slice (some ⟨gc,0,none⟩) m.length c3)) (ds:=[7]) #[false,false,false,false,false,false,false,false] (by kernel_rfl) rfl rfl (Y) (λz=>?_);refine Bf 0 28 ?_;refine Bf 2 30 ?_;refine Bf 3 31 ?_;refine P0 1 29 z ?_;refine E7 4 32 (λK hK=>?_);refine C7 R0 (by kernel_rfl) rfl #[.pointer (some ⟨g,0,none⟩),.int .i64 5] (by rfl) rfl rfl (by simp only[List.map_toArray,List.map_cons,List.map_nil];rfl) ?_;with_reducible refine(Ab.calls k g b p3 5 r p4 w0 _ M.o.hI M.o.hB HR.o).mono ?_
   rintro e w8 ⟨rfl,hI,hB,l⟩;refine⟨_,rfl,?_⟩;have D:=M.o.pick hI hB l;clear M hI hB l z0 z1 z2 Y z4 y t0 t1 t2 t3 t4 ty;have M:=a_ D;clear D;obtain⟨z0,z1,z2,Y,z4,y⟩:=M.o.B.c5 0 rfl;obtain⟨t0,t1,t2,t3,t4,ty⟩:=M.o.B.c5 1 rfl;obtain⟨oki,cs,ak,hM,aa,ab,ae,hH⟩:=Kd.ML M.o.now P8 J KK.o CK.o;obtain⟨u2,u3,rfl,h2,h3⟩:=Ij hM;have HH:=a_ hH;have X2:=a_ h2;have X3:=a_ h3;have x0:w8.cell? ⟨gc,J.toNat*6+1,none⟩=some (.int .i64 (AE m J).f1):=aa 1 _ rfl;have x1:w8.frozen? ⟨gc,J.toNat*6+1,none⟩=false:=ab 1;clear ak hM aa ab ae hH h2 h3;have ao:gc≠o:=λe=>GC.o.1 (by simp[e])
   have az:o≠gc:=λe=>ao e.symm
   have aq:gc≠u:=λe=>GC.o.1 (by simp[e])
   have aA:u≠gc:=λe=>aq e.symm
   refine hK.out _ _ (Y) (λz=>?_);clear hK K;refine Er 32 ?_;refine Bf 5 33 ?_;refine Bf 6 34 ?_;refine Fe (i:=7) (N:=none) #[true,true,true,true,true,true,true,true] rfl rfl (by kernel_rfl) (by decide) (λK hK=>?_);refine EL (w1:=?_) (by rfl) rfl ?_ ?_;rotate_left
   ·go_simp;rfl
   refine hK.out _ _ ?_;clear hK K;refine CV (by kernel_rfl) ?_;obtain⟨ah,al⟩:=Kd.MP (okp:=oki) (x':=({ AE m J with f1:=r }:EZ)) HH.o KK.o CK.o (seg:=[.int .i64 r]) (j:=1) (show 1+1≤6 by decide) (IJ _ _ _ ({ AE m J with f1:=r }:EZ) X2.o X3.o) (λ_ h=>h);have D:Gx w0 w (w8.setCell ⟨gc,J.toNat*6+1,none⟩ (.int .i64 r)) g b p4 [o,u,g] [⟨o,[.slice O U T,.int .i64 E,.bool L,.slice (some ⟨gc,0,none⟩) m.length c3,.slice G I c4],64⟩,⟨u,[.slice none 0 0,.int .i64 0,.bool false,.slice none 0 0,.slice none 0 0],64⟩] (λW=>Kd.S Ha 26 W b0 (λk=>b0≤k∧k<b1) (.slice (some ⟨gc,0,none⟩) m.length c3) (m.set J.toNat { AE m J with f1:=r })):=M.o.write al (DK M.o.hB (RJ M.o.hw GC.o.2)) GC.o.1 GC.o.2 (Cx.mono (E1 ah) (λk l e=>by have:=B.o;have:=LG.o;simp only[List.mem_cons,List.not_mem_nil,or_false]at e;rcases e with e|e|e <;> omega));have X:u≠o:=M.o.B.ne (i:=1) (i':=0) rfl rfl (by decide);have ag:o≠u:=λe=>X e.symm
   go_wp2;have d:Gx w0 w _ g b _ _ [⟨o,[.slice O U T,.int .i64 E,.bool L,.slice (some ⟨gc,0,none⟩) m.length c3,.slice G I c4],64⟩,⟨u,[.slice O U T,.int .i64 E,.bool L,.slice (some ⟨gc,0,none⟩) m.length c3,.slice G I c4],64⟩] _:=D.DW 1 rfl;have DB:=d.B.Ex 1 rfl;refine RH (RF rfl _ _ u 64 #[.slice O U T,.int .i64 E,.bool L,.slice (some ⟨gc,0,none⟩) m.length c3,.slice G I c4] (0,0) _ rfl DB RK rfl (by kernel_rfl)) rfl ?_;first|exact⟨_,_,_,_,_,_,_,rfl,Cx.imp (Cx.mono (E1 (Kd.Ea d.now B.o.2.2.1)) (λk l=>RJ B.o.2.2.1 l.1)) (λ_ h=>IX h),d.hI,d.hB,d.CU⟩|exact⟨_,⟨_,_,_,_,_,_,rfl⟩,Cx.imp (Cx.mono (E1 (Kd.Ea d.now B.o.2.2.1)) (λk l=>RJ B.o.2.2.1 l.1)) (λ_ h=>IX h),d.hI,d.hB,d.CU⟩
  rw[Rz c]at a;exact absurd a (by simp)
 rw[Rz k1]at a;have n1:(q==1)=false:=Dr k1;by_cases k2:q=2
 ·rw[Ry k2]at a;by_cases c:0≤J∧J<(m.length:Int)
  ·rw[Ry c]at a;replace a:=BR a;obtain⟨⟨r,p4⟩,hr,a⟩:=a;simp only[Option.some.injEq,Prod.mk.injEq,Wd.mk.injEq]at a;obtain⟨⟨rfl,rfl,rfl,rfl,rfl⟩,rfl⟩:=a;have HR:=a_ hr;clear hr;subst k2;have KK:=a_ c.1;have CK:=a_ c.2;have q2:=RA KK.o;have q3:=RA CK.o;clear c;obtain⟨gc,cap,e3,-⟩:=Kd.KZ M.o.now (by have:=KK.o;have:=CK.o;omega);injection e3 with e3 _ e5;subst e3;clear e5;have GC:=a_ (show gc∉[o,u,g]∧w.heap.size≤gc from by have h1:=(Kd.L_ M.o.now).1 gc (by simp[Value.ownBlock]);have:=B.o;have:=LG.o;refine⟨λe=>?_,by omega⟩;simp only[List.mem_cons,List.not_mem_nil,or_false]at e;rcases e with e|e|e <;> omega);go_upto_region 9 with(fail)
   have Md:=a_ M.o.drew;clear M;have M:=Md;clear Md;refine Cl (n:=8) (S:=λw'=>w'.cell? ⟨o,3,none⟩=some (.slice (some ⟨gc,0,none⟩) m.length c3)) (ds:=[7]) #[false,false,false,false,false,false,false,false] (by kernel_rfl) rfl rfl (Y) (λz=>?_);refine Bf 0 37 ?_;refine Bf 2 39 ?_;refine Bf 3 40 ?_;refine P0 1 38 z ?_;refine E7 4 41 (λK hK=>?_);refine C7 R0 (by kernel_rfl) rfl #[.pointer (some ⟨g,0,none⟩),.int .i64 8] (by rfl) rfl rfl (by simp only[List.map_toArray,List.map_cons,List.map_nil];rfl) ?_;with_reducible refine(Ab.calls k g b p3 8 r p4 w0 _ M.o.hI M.o.hB HR.o).mono ?_
   rintro e w8 ⟨rfl,hI,hB,l⟩;refine⟨_,rfl,?_⟩;have D:=M.o.pick hI hB l;clear M hI hB l z0 z1 z2 Y z4 y t0 t1 t2 t3 t4 ty;have M:=a_ D;clear D;obtain⟨z0,z1,z2,Y,z4,y⟩:=M.o.B.c5 0 rfl;obtain⟨t0,t1,t2,t3,t4,ty⟩:=M.o.B.c5 1 rfl;obtain⟨oki,cs,ak,hM,aa,ab,ae,hH⟩:=Kd.ML M.o.now P8 J KK.o CK.o;obtain⟨u2,u3,rfl,h2,h3⟩:=Ij hM;have HH:=a_ hH;have X2:=a_ h2;have X3:=a_ h3;have x0:w8.cell? ⟨gc,J.toNat*6+5,none⟩=some (.int .i64 (AE m J).f5):=aa 5 _ rfl;have x1:w8.frozen? ⟨gc,J.toNat*6+5,none⟩=false:=ab 5;clear ak hM aa ab ae hH h2 h3;have ao:gc≠o:=λe=>GC.o.1 (by simp[e])
   have az:o≠gc:=λe=>ao e.symm
   have aq:gc≠u:=λe=>GC.o.1 (by simp[e])
   have aA:u≠gc:=λe=>aq e.symm
   refine hK.out _ _ (Y) (λz=>?_);clear hK K;refine Er 41 ?_;refine Bf 5 42 ?_;refine Bf 6 43 ?_;refine Fe (i:=7) (N:=none) #[true,true,true,true,true,true,true,true] rfl rfl (by kernel_rfl) (by decide) (λK hK=>?_);refine EL (w1:=?_) (by rfl) rfl ?_ ?_;rotate_left
   ·go_simp;rfl
   refine hK.out _ _ ?_;clear hK K;refine CV (by kernel_rfl) ?_;obtain⟨ah,al⟩:=Kd.MP (okp:=oki) (x':=({ AE m J with f5:=r }:EZ)) HH.o KK.o CK.o (seg:=[.int .i64 r]) (j:=5) (show 5+1≤6 by decide) (IJ _ _ _ ({ AE m J with f5:=r }:EZ) X2.o X3.o) (λ_ h=>h);have D:Gx w0 w (w8.setCell ⟨gc,J.toNat*6+5,none⟩ (.int .i64 r)) g b p4 [o,u,g] [⟨o,[.slice O U T,.int .i64 E,.bool L,.slice (some ⟨gc,0,none⟩) m.length c3,.slice G I c4],64⟩,⟨u,[.slice none 0 0,.int .i64 0,.bool false,.slice none 0 0,.slice none 0 0],64⟩] (λW=>Kd.S Ha 26 W b0 (λk=>b0≤k∧k<b1) (.slice (some ⟨gc,0,none⟩) m.length c3) (m.set J.toNat { AE m J with f5:=r })):=M.o.write al (DK M.o.hB (RJ M.o.hw GC.o.2)) GC.o.1 GC.o.2 (Cx.mono (E1 ah) (λk l e=>by have:=B.o;have:=LG.o;simp only[List.mem_cons,List.not_mem_nil,or_false]at e;rcases e with e|e|e <;> omega));have X:u≠o:=M.o.B.ne (i:=1) (i':=0) rfl rfl (by decide);have ag:o≠u:=λe=>X e.symm
   go_wp2;have d:Gx w0 w _ g b _ _ [⟨o,[.slice O U T,.int .i64 E,.bool L,.slice (some ⟨gc,0,none⟩) m.length c3,.slice G I c4],64⟩,⟨u,[.slice O U T,.int .i64 E,.bool L,.slice (some ⟨gc,0,none⟩) m.length c3,.slice G I c4],64⟩] _:=D.DW 1 rfl;have DB:=d.B.Ex 1 rfl;refine RH (RF rfl _ _ u 64 #[.slice O U T,.int .i64 E,.bool L,.slice (some ⟨gc,0,none⟩) m.length c3,.slice G I c4] (0,0) _ rfl DB RK rfl (by kernel_rfl)) rfl ?_;first|exact⟨_,_,_,_,_,_,_,rfl,Cx.imp (Cx.mono (E1 (Kd.Ea d.now B.o.2.2.1)) (λk l=>RJ B.o.2.2.1 l.1)) (λ_ h=>IX h),d.hI,d.hB,d.CU⟩|exact⟨_,⟨_,_,_,_,_,_,rfl⟩,Cx.imp (Cx.mono (E1 (Kd.Ea d.now B.o.2.2.1)) (λk l=>RJ B.o.2.2.1 l.1)) (λ_ h=>IX h),d.hI,d.hB,d.CU⟩
  rw[Rz c]at a;exact absurd a (by simp)
 rw[Rz k2]at a;have n2:(q==2)=false:=Dr k2;by_cases k3:q=3
 ·rw[Ry k3]at a;replace a:=BR a;obtain⟨⟨r,p4⟩,hr,a⟩:=a;simp only[Option.some.injEq,Prod.mk.injEq,Wd.mk.injEq]at a;obtain⟨⟨rfl,rfl,rfl,rfl,rfl⟩,rfl⟩:=a;have HR:=a_ hr;clear hr;subst k3;go_wp2_with(go_at_call 49;(with_reducible refine(AW.calls k g b p3 r p4 w0 _ M.o.hI M.o.hB HR.o).mono ?_);rintro e w8 ⟨aE,rfl,ho,hI,hB,l⟩;obtain⟨L0,lc,rfl⟩:=Kd.Be ho;have D:=M.o.pick hI hB l;clear M ho hI hB l z0 z1 z2 Y z4 y t0 t1 t2 t3 t4 ty;have M:=a_ D;clear D;obtain⟨z0,z1,z2,Y,z4,y⟩:=M.o.B.c5 0 rfl;obtain⟨t0,t1,t2,t3,t4,ty⟩:=M.o.B.c5 1 rfl;have X:u≠o:=M.o.B.ne (i:=1) (i':=0) rfl rfl (by decide);have ag:o≠u:=λe=>X e.symm);have d:Gx w0 w _ g b _ _ [⟨o,[.slice L0 r.length lc,.int .i64 E,.bool L,.slice A3 m.length c3,.slice G I c4],64⟩,⟨u,[.slice L0 r.length lc,.int .i64 E,.bool L,.slice A3 m.length c3,.slice G I c4],64⟩] _:=(M.o.put 0 0 (.slice L0 r.length lc) rfl).DW 1 rfl;have DB:=d.B.Ex 1 rfl;refine RH (RF rfl _ _ u 64 #[.slice L0 r.length lc,.int .i64 E,.bool L,.slice A3 m.length c3,.slice G I c4] (0,0) _ rfl DB RK rfl (by kernel_rfl)) rfl ?_;first|exact⟨_,_,_,_,_,_,_,rfl,Cx.imp (Cx.mono (E1 (Kd.Ea d.now B.o.2.2.1)) (λk l=>RJ B.o.2.2.1 l.1)) (λ_ h=>IX h),d.hI,d.hB,d.CU⟩|exact⟨_,⟨_,_,_,_,_,_,rfl⟩,Cx.imp (Cx.mono (E1 (Kd.Ea d.now B.o.2.2.1)) (λk l=>RJ B.o.2.2.1 l.1)) (λ_ h=>IX h),d.hI,d.hB,d.CU⟩
 rw[Rz k3]at a;have n3:(q==3)=false:=Dr k3;by_cases k4:q=4
 ·rw[Ry k4]at a;by_cases c:1≤m.length
  ·rw[Ry c]at a;simp only[Option.some.injEq,Prod.mk.injEq,Wd.mk.injEq]at a;obtain⟨⟨rfl,rfl,rfl,rfl,rfl⟩,rfl⟩:=a;subst k4;obtain⟨i1,aw,_,ax,_⟩:=S3 La;have af:m.length≤c3:=(Kd.MO M.o.now).2.1;have hcut:=Gs (P:=Tryd.prog) 61 26 .i64 Tryd.underlying61 aw 6 ax A3 m.length c3 1 (by omega) (by omega);have hlen:m.length-(1:Int).toNat=(m.drop 1).length:=by rw[R9];rfl
   rw[hlen]at hcut;obtain⟨A9,hA9⟩:∃A:Option Addr,A=(if c3=(1:Int).toNat then A3 else A3.map (·.add ((1:Int).toNat*6))):=⟨_,rfl⟩
   rw[<-hA9]at hcut;obtain⟨c9,aj⟩:∃c:Nat,c=c3-(1:Int).toNat:=⟨_,rfl⟩
   rw[<-aj]at hcut;obtain⟨n9,an⟩:∃n:Nat,n=(m.drop 1).length:=⟨_,rfl⟩
   rw[<-an]at hcut;have HA:=a_ hA9;have HC:=a_ aj;have HN:=a_ an;have HR:=a_ (And.intro c af);have q1:((1:Int)≤(m.length:Int))=True:=RA (by omega);clear hA9 aj an hlen aw ax c af;have HE:∀W:World,Kd.S Ha 26 W w.heap.size (λk=>b0≤k∧k<b1) (.slice A3 m.length c3) m->El w.heap.size (.slice A9 n9 c9) (m.drop 1) W:=λW h=>by rw[HA.o,HC.o,HN.o];exact NU (IX h) HR.o.1 HR.o.2
   have ar:=a_ HE;clear HE;have X:u≠o:=M.o.B.ne (i:=1) (i':=0) rfl rfl (by decide);have ag:o≠u:=λe=>X e.symm
   go_wp2;have d:Gx w0 w _ g b _ _ [⟨o,[.slice O U T,.int .i64 E,.bool L,.slice A9 n9 c9,.slice G I c4],64⟩,⟨u,[.slice O U T,.int .i64 E,.bool L,.slice A9 n9 c9,.slice G I c4],64⟩] _:=(M.o.put 0 3 (.slice A9 n9 c9) rfl).DW 1 rfl;have DB:=d.B.Ex 1 rfl;refine RH (RF rfl _ _ u 64 #[.slice O U T,.int .i64 E,.bool L,.slice A9 n9 c9,.slice G I c4] (0,0) _ rfl DB RK rfl (by kernel_rfl)) rfl ?_;first|exact⟨_,_,_,_,_,_,_,rfl,Cx.imp (Cx.mono (E1 (Kd.Ea d.now B.o.2.2.1)) (λk l=>RJ B.o.2.2.1 l.1)) (λW h=>ar.o W h),d.hI,d.hB,d.CU⟩|exact⟨_,⟨_,_,_,_,_,_,rfl⟩,Cx.imp (Cx.mono (E1 (Kd.Ea d.now B.o.2.2.1)) (λk l=>RJ B.o.2.2.1 l.1)) (λW h=>ar.o W h),d.hI,d.hB,d.CU⟩
  rw[Rz c]at a;exact absurd a (by simp)
 rw[Rz k4]at a;have n4:(q==4)=false:=Dr k4;simp only[Option.some.injEq,Prod.mk.injEq,Wd.mk.injEq]at a;obtain⟨⟨rfl,rfl,rfl,rfl,rfl⟩,rfl⟩:=a;go_wp2;have d:Gx w0 w _ g b _ _ [⟨o,[.slice O U T,.int .i64 E,.bool L,.slice A3 m.length c3,.slice G I c4],64⟩,⟨u,[.slice O U T,.int .i64 E,.bool L,.slice A3 m.length c3,.slice G I c4],64⟩] _:=M.o.DW 1 rfl;have DB:=d.B.Ex 1 rfl;refine RH (RF rfl _ _ u 64 #[.slice O U T,.int .i64 E,.bool L,.slice A3 m.length c3,.slice G I c4] (0,0) _ rfl DB RK rfl (by kernel_rfl)) rfl ?_;first|exact⟨_,_,_,_,_,_,_,rfl,Cx.imp (Cx.mono (E1 (Kd.Ea d.now B.o.2.2.1)) (λk l=>RJ B.o.2.2.1 l.1)) (λ_ h=>IX h),d.hI,d.hB,d.CU⟩|exact⟨_,⟨_,_,_,_,_,_,rfl⟩,Cx.imp (Cx.mono (E1 (Kd.Ea d.now B.o.2.2.1)) (λk l=>RJ B.o.2.2.1 l.1)) (λ_ h=>IX h),d.hI,d.hB,d.CU⟩
theorem Gx.P6{w0 w W W1:World}{g b0:Nat}{b:List Int}{p:Int}{zs:List Nat}{bs:List Bx}{D D':World->Prop}{row:Option Nat}(h:Gx w0 w W g b p zs bs D)(hg:W.grownBy W1 row)(c:Below b0 W W1)(h0:w0.heap.size≤b0)(d:∀k,row=some k->k∉zs∧w.heap.size≤k)(hD:Cx D' W1 (λk=>k∉zs)):Gx w0 w W1 g b p zs bs D' :=
 ⟨⟨c.os.trans h.hB.os,c.tape.trans h.hB.tape,c.output.trans h.hB.output,RJ h.hB.size c.size,λk a=>(c.block k (R_ a h0)).trans (h.hB.block k a)⟩,⟨λq i=>AO (h.B.at_ q i) hg (λe=>(d _ e.symm).1 (h.B.mem q i)),h.B.nd,h.B.ge,h.B.mem,h.B.hK.DJ hg (λk a=>.inr (d k a).2)⟩,h.hw,h.hI.grown hg (λe=>(d _ e.symm).1 h.hz),h.hz,h.hg,λk a=>R_ (h.hl k a) hg.size,hD⟩
theorem Df.calls(k:Nat)(g:Nat)(b:List Int)(p:Int)(r1:Int)(r2:Int)(r3:List Ba)(r4:List AQ)(r5:Int)(r6:Int)(r7:Int)(w0 w:World)(hI:Ad w0 w g b p)(hB:Below w0.heap.size w0 w)(o:Df.f k b p=some (r1,r2,r3,r4,r5,r6,r7)) :
  Calls Tryd.prog 15 #[.pointer (some ⟨g,0,none⟩)] w λe w'=>∃ar au:Value,e=.returned (.agg #[.int .i64 r1,.int .i64 r2,ar,au,.int .i64 r5,.int .i64 r6])∧Kd.R Dd 68 w' w.heap.size (λ_=>True) ar r3∧Kd.R Ck 32 w' w.heap.size (λ_=>True) au r4∧Ad w0 w' g b r7∧Below w0.heap.size w0 w'∧Ah w w' g none:=by
 have aE:=RK;have aD:=Sh;have aA:=RP;have aC:=Sk;have aB:=RW;unfold Df.f at o;replace o:=BR o;obtain⟨⟨⟨y0,y1,y2,y3,y4⟩,p1⟩,hp,o⟩:=o;replace o:=BR o;obtain⟨⟨i,p2⟩,hi,o⟩:=o;dsimp only at hp hi o;by_cases c1:0≤i
 ·rw[Ry c1]at o;by_cases c2:i<(y3.length:Int)
  ·rw[Ry c2]at o;obtain⟨d,ak⟩:∃c:EZ,c=AE y3 i:=⟨_,rfl⟩
   rw[<-ak]at o;replace o:=BR o;obtain⟨⟨q,p3⟩,hq,o⟩:=o;dsimp only at o;have HP:=a_ hp;have HI:=a_ hi;have HQ:=a_ hq;have HC:=a_ (And.intro c1 c2);have HL:=a_ ak;have q2:=RA HC.o.1;have q3:=RA HC.o.2;have M:=a_ (Gx.start hI hB);clear hp hi hq ak c1 c2 hI hB;go_enter Tryd.func15,Tryd.ntmps15
   go_upto_region 2 with(first
    | ((with_reducible refine BV (N:=2) rfl ?_);refine Cy 2 (#[.int .i64 0,.int .i64 0,.slice none 0 0,.slice none 0 0,.int .i64 0,.int .i64 0]) 26 ?_;intro G hg w1 u hb;have D:=M.o.box (cs:=[.int .i64 0,.int .i64 0,.slice none 0 0,.slice none 0 0,.int .i64 0,.int .i64 0]) hg hb u;clear M u hb hg;have M:=a_ D;clear D)
    | (go_at_call 34;(with_reducible refine(DZ.calls k g b p y0 y1 y2 y3 y4 p1 w0 _ M.o.hI M.o.hB HP.o).mono ?_);rintro e w2 ⟨aG,A0,m0,c0,A4,m4,c4,rfl,hF,hI,hB,B⟩;obtain⟨b0,an⟩:∃x,x=w1.heap.size:=⟨_,rfl⟩;rw[<-an]at hF;obtain⟨ad,c3,u2,u3,rfl,hE⟩:=Qd (Cx.now hF) i HC.o.1 HC.o.2;rw[<-HL.o]at hE;obtain⟨B2,b2,rfl⟩:=Kd.Be (Cx.now hE).2.1;obtain⟨B3,b3,rfl⟩:=Kd.Be (Cx.now hE).2.2;obtain⟨b1,aj⟩:∃x,x=w2.heap.size:=⟨_,rfl⟩;rw[<-aj]at hE;have D:=(M.o.pick hI hB B).Ja (Cx.mono hE (λk B e=>by have:=M.o.hl k e;omega));have LB:=a_ (show G<b0∧g<b0∧w.heap.size≤b0∧b0≤b1 from⟨by have:=M.o.hl G (by simp);omega,by have:=M.o.hl g (by simp);omega,by have:=M.o.B.hK.1;omega,by have:=B.1;omega⟩);have U:=a_ (show b1≤w2.heap.size from Sd aj);clear M hF hE hI hB B an aj;have M:=a_ D;clear D)
    | ((with_reducible refine BV (N:=3) rfl ?_);refine Cy 3 (#[.slice none 0 0,.int .i64 0,.bool false,.slice none 0 0,.slice none 0 0]) 64 ?_;intro A hg w3 u hb;have D:=M.o.box (cs:=[.slice none 0 0,.int .i64 0,.bool false,.slice none 0 0,.slice none 0 0]) hg hb u;have LG:=a_ (show b1≤A from hg ▸ U.o);have ae:=a_ (show b1≤w3.heap.size from RJ U.o hb.size);clear U;clear M u hb hg;have M:=a_ D;clear D;obtain⟨X,Y,Z,E,z4,y⟩:=M.o.B.c5 0 rfl)
    | ((with_reducible refine Dc (t:=64) (p:=3) rfl ?_);refine CY (t:=64) (p:=3) (v:=?q') (w1:=(((((w3.setCell ⟨A,0,none⟩ (.slice A0 m0 c0)).setCell ⟨A,1,none⟩ (.int .i64 y1)).setCell ⟨A,2,none⟩ (.bool y2)).setCell ⟨A,3,none⟩ (.slice (some ad) y3.length c3)).setCell ⟨A,4,none⟩ (.slice A4 m4 c4))) ?hg ?ho ?hn ?hr ?_;(case ho=>rfl);(case hg=>rfl);(case hn=>rfl);(case hr=>first|(go_simp;done)|(go_simp;rfl));intro w4 hw;have D:Gx w0 w _ g b _ [A,G,g] [⟨A,[.slice A0 m0 c0,.int .i64 y1,.bool y2,.slice (some ad) y3.length c3,.slice A4 m4 c4],64⟩,⟨G,[.int .i64 0,.int .i64 0,.slice none 0 0,.slice none 0 0,.int .i64 0,.int .i64 0],26⟩] (Ec b0 b1 ad i d (.slice B2 d.f2.length b2) (.slice B3 d.f3.length b3)):=M.o.DW 0 rfl;have U:=a_ (show b1≤w4.heap.size by rw[hw];simpa[World.setCell]using ae.o);clear ae;rw[<-hw]at D;clear M hw X Y Z E z4 y;have M:=a_ D;clear D;obtain⟨X,Y,Z,E,z4,y⟩:=M.o.B.c5 0 rfl;obtain⟨t0,t1,t2,t3,t4,t5,ty⟩:=M.o.B.c6 1 rfl;obtain⟨I,J,L,O,P,T⟩:=M.o.now.1))
   have Md:=a_ M.o.drew;clear M;have M:=Md;clear Md;refine Cl (n:=11) (S:=λw'=>w'.cell? ⟨A,3,none⟩=some (.slice (some ad) y3.length c3)∧w'.cell? (ad.add (i.toNat*6))=some (.int .i64 d.f0)∧w'.cell? ⟨(ad.add (i.toNat*6)).block,(ad.add (i.toNat*6)).off+1,none⟩=some (.int .i64 d.f1)∧w'.cell? ⟨(ad.add (i.toNat*6)).block,(ad.add (i.toNat*6)).off+2,none⟩=some (.slice B2 d.f2.length b2)∧w'.cell? ⟨(ad.add (i.toNat*6)).block,(ad.add (i.toNat*6)).off+3,none⟩=some (.slice B3 d.f3.length b3)∧w'.cell? ⟨(ad.add (i.toNat*6)).block,(ad.add (i.toNat*6)).off+4,none⟩=some (.int .i64 d.f4)∧w'.cell? ⟨(ad.add (i.toNat*6)).block,(ad.add (i.toNat*6)).off+5,none⟩=some (.int .i64 d.f5)) (ds:=[10]) #[false,false,false,false,false,false,false,false,false,false,false] (by kernel_rfl) rfl rfl ⟨E,I,J,L,O,P,T⟩ (λm=>?_);refine Bf 0 7 ?_;refine Bf 2 9 ?_;refine Bf 3 10 ?_;refine IE 1 8 m ?_;refine IE 4 11 m ?_;refine Bf 5 12 ?_;refine Nd (σ:=Nat) 1 #[true,true,true,true,true,true,true,true,true,true,false] ((λs=>[(13,.int .i64 i),(14,.pointer (some (ad.add (i.toNat*6)))),(15,.agg #[.int .i64 d.f0,.int .i64 d.f1,.slice B2 d.f2.length b2,.slice B3 d.f3.length b3,.int .i64 d.f4,.int .i64 d.f5]),(4,.pointer (some ⟨s,0,none⟩))])) ((λs w'=>Ac (Gx w0 w w' g b p2 [s,A,G,g] [⟨s,[.int .i64 0,.int .i64 0,.slice none 0 0,.slice none 0 0,.int .i64 0,.int .i64 0],26⟩,⟨A,[.slice A0 m0 c0,.int .i64 y1,.bool y2,.slice (some ad) y3.length c3,.slice A4 m4 c4],64⟩,⟨G,[.int .i64 0,.int .i64 0,.slice none 0 0,.slice none 0 0,.int .i64 0,.int .i64 0],26⟩] (Ec b0 b1 ad i d (.slice B2 d.f2.length b2) (.slice B3 d.f3.length b3)))∧Ac (b1≤s))) ?_ ?_;rotate_left
   ·intro af;refine NM (i:=6) (j:=9) (Ni:=some 13) (Nj:=some 4) #[true,true,true,true,true,true,true,false,false,false,false] #[true,true,true,true,true,true,false,false,false,true,false] rfl rfl rfl rfl (by kernel_rfl) (by decide) (by decide) (λK hK=>?_) (λK hK=>?_)
    ·skip;refine C7 R0 (by kernel_rfl) rfl #[.pointer (some ⟨g,0,none⟩),.int .i64 (y3.length:Int)] (by rfl) rfl rfl (by simp only[List.map_toArray,List.map_cons,List.map_nil];rfl) ?_;with_reducible refine(Ab.calls k g b p1 (y3.length:Int) i p2 w0 _ M.o.hI M.o.hB HI.o).mono ?_
     rintro e w6 ⟨rfl,hI,hB,B⟩;refine⟨_,rfl,?_⟩;have D:=M.o.pick hI hB B;have ae:=a_ (show b1≤w6.heap.size from RJ U.o B.1);clear U;have U:=ae;clear ae;clear M hI hB B X Y Z E z4 y t0 t1 t2 t3 t4 t5 ty I J L O P T;have M:=a_ D;clear D;obtain⟨X,Y,Z,E,z4,y⟩:=M.o.B.c5 0 rfl;obtain⟨t0,t1,t2,t3,t4,t5,ty⟩:=M.o.B.c6 1 rfl;obtain⟨I,J,L,O,P,T⟩:=M.o.now.1;refine hK.out _ _ ⟨E,I,J,L,O,P,T⟩ (λm=>?_);clear hK K;refine Er 13 ?_;refine Bf 7 14 ?_;refine IE 8 15 m ?_;refine E7 9 4 (λK hK=>?_);refine Gi (w1:=?_) (v:=?_) (by rfl) rfl ?_ ?_;rotate_left 2
     ·go_simp;constructor
      ·rfl
      rfl
     obtain⟨wA,aa⟩:∃x,x=(World.alloc w6 (.cells #[.int .i64 0,.int .i64 0,.slice none 0 0,.slice none 0 0,.int .i64 0,.int .i64 0] 26 (0,0))):=⟨_,rfl⟩
     have hb:Below (w6).heap.size (w6) wA:=by rw[aa];exact FT (RG _ _) _
     have u:wA.heap[w6.heap.size]?=some (.cells #[.int .i64 0,.int .i64 0,.slice none 0 0,.slice none 0 0,.int .i64 0,.int .i64 0] 26 (0,0)):=by rw[aa];exact EW _ _
     have D:=M.o.box (a:=w6.heap.size) (cs:=[.int .i64 0,.int .i64 0,.slice none 0 0,.slice none 0 0,.int .i64 0,.int .i64 0]) rfl hb u;have LC:=a_ (show b1≤w6.heap.size from U.o);rw[<-aa];obtain⟨z,ab⟩:∃x,x=w6.heap.size:=⟨_,rfl⟩
     rw[<-ab]at D LC;rw[<-ab];clear M hb u aa ab U X Y Z E z4 y t0 t1 t2 t3 t4 t5 ty I J L O P T;have M:=a_ D;clear D;obtain⟨e0,e1,e2,e3,e4,e5,ey⟩:=M.o.B.c6 0 rfl;obtain⟨X,Y,Z,E,z4,y⟩:=M.o.B.c5 1 rfl;obtain⟨t0,t1,t2,t3,t4,t5,ty⟩:=M.o.B.c6 2 rfl;obtain⟨I,J,L,O,P,T⟩:=M.o.now.1;refine hK.out _ _ ⟨E,I,J,L,O,P,T⟩ (λm=>?_);clear hK K;refine Er 4 ?_;exact FI (by simp only[Ff,Act.put,List.setIfInBounds_toArray,List.set_cons_zero,List.set_cons_succ]) (af _ _ ⟨M,LC⟩)
    skip;refine Gi (w1:=?_) (v:=?_) (by rfl) rfl ?_ ?_;rotate_left 2
    ·go_simp;constructor
     ·rfl
     rfl
    obtain⟨wA,aa⟩:∃x,x=(World.alloc w4 (.cells #[.int .i64 0,.int .i64 0,.slice none 0 0,.slice none 0 0,.int .i64 0,.int .i64 0] 26 (0,0))).drew:=⟨_,rfl⟩
    have hb:Below (w4.drew).heap.size (w4.drew) wA:=by rw[aa,<-World.alloc_drew];exact FT (RG _ _) _
    have u:wA.heap[w4.heap.size]?=some (.cells #[.int .i64 0,.int .i64 0,.slice none 0 0,.slice none 0 0,.int .i64 0,.int .i64 0] 26 (0,0)):=by rw[aa,<-World.alloc_drew];exact EW _ _
    have D:=M.o.box (a:=w4.heap.size) (cs:=[.int .i64 0,.int .i64 0,.slice none 0 0,.slice none 0 0,.int .i64 0,.int .i64 0]) rfl hb u;have LC:=a_ (show b1≤w4.heap.size from U.o);rw[<-aa];obtain⟨z,ab⟩:∃x,x=w4.heap.size:=⟨_,rfl⟩
    rw[<-ab]at D LC;rw[<-ab];clear M hb u aa ab U X Y Z E z4 y t0 t1 t2 t3 t4 t5 ty I J L O P T;have M:=a_ D;clear D;obtain⟨e0,e1,e2,e3,e4,e5,ey⟩:=M.o.B.c6 0 rfl;obtain⟨X,Y,Z,E,z4,y⟩:=M.o.B.c5 1 rfl;obtain⟨t0,t1,t2,t3,t4,t5,ty⟩:=M.o.B.c6 2 rfl;obtain⟨I,J,L,O,P,T⟩:=M.o.now.1;refine hK.out _ _ ⟨E,I,J,L,O,P,T⟩ (λm=>?_);clear hK K;refine Er 4 ?_;refine E7 6 13 (λK hK=>?_);refine C7 R0 (by kernel_rfl) rfl #[.pointer (some ⟨g,0,none⟩),.int .i64 (y3.length:Int)] (by rfl) rfl rfl (by simp only[List.map_toArray,List.map_cons,List.map_nil];rfl) ?_;with_reducible refine(Ab.calls k g b p1 (y3.length:Int) i p2 w0 _ M.o.hI M.o.hB HI.o).mono ?_
    rintro e w6 ⟨rfl,hI,hB,B⟩;refine⟨_,rfl,?_⟩;have D:=M.o.pick hI hB B;clear M hI hB B X Y Z E z4 y t0 t1 t2 t3 t4 t5 ty I J L O P T e0 e1 e2 e3 e4 e5 ey;have M:=a_ D;clear D;obtain⟨e0,e1,e2,e3,e4,e5,ey⟩:=M.o.B.c6 0 rfl;obtain⟨X,Y,Z,E,z4,y⟩:=M.o.B.c5 1 rfl;obtain⟨t0,t1,t2,t3,t4,t5,ty⟩:=M.o.B.c6 2 rfl;obtain⟨I,J,L,O,P,T⟩:=M.o.now.1;refine hK.out _ _ ⟨E,I,J,L,O,P,T⟩ (λm=>?_);clear hK K;refine Er 13 ?_;refine Bf 7 14 ?_;refine IE 8 15 m ?_;exact FI (by simp only[Ff,Act.put,List.setIfInBounds_toArray,List.set_cons_zero,List.set_cons_succ]) (af _ _ ⟨M,LC⟩)
   rintro z w9 ⟨M,LC⟩;obtain⟨e0,e1,e2,e3,e4,e5,ey⟩:=M.o.B.c6 0 rfl;obtain⟨X,Y,Z,E,z4,y⟩:=M.o.B.c5 1 rfl;obtain⟨t0,t1,t2,t3,t4,t5,ty⟩:=M.o.B.c6 2 rfl;obtain⟨I,J,L,O,P,T⟩:=M.o.now.1;have m:(λw':World=>w'.cell? ⟨A,3,none⟩=some (.slice (some ad) y3.length c3)∧w'.cell? (ad.add (i.toNat*6))=some (.int .i64 d.f0)∧w'.cell? ⟨(ad.add (i.toNat*6)).block,(ad.add (i.toNat*6)).off+1,none⟩=some (.int .i64 d.f1)∧w'.cell? ⟨(ad.add (i.toNat*6)).block,(ad.add (i.toNat*6)).off+2,none⟩=some (.slice B2 d.f2.length b2)∧w'.cell? ⟨(ad.add (i.toNat*6)).block,(ad.add (i.toNat*6)).off+3,none⟩=some (.slice B3 d.f3.length b3)∧w'.cell? ⟨(ad.add (i.toNat*6)).block,(ad.add (i.toNat*6)).off+4,none⟩=some (.int .i64 d.f4)∧w'.cell? ⟨(ad.add (i.toNat*6)).block,(ad.add (i.toNat*6)).off+5,none⟩=some (.int .i64 d.f5)) w9:=⟨E,I,J,L,O,P,T⟩
   refine FI (a':=?_) ?_ ?_;rotate_left
   ·simp only[Ff,Act.put,List.setIfInBounds_toArray,List.set_cons_zero,List.set_cons_succ];rfl
   refine Fe (i:=10) (N:=none) #[true,true,true,true,true,true,true,true,true,true,true] rfl rfl (by kernel_rfl) (by decide) (λK hK=>?_);refine EL (w1:=?_) (by rfl) rfl ?_ ?_;rotate_left
   ·go_simp;rfl
   refine hK.out _ _ ?_;clear hK K;refine CV (by kernel_rfl) ?_;obtain⟨aH,ag⟩:∃x,x=((((((w9.setCell ⟨z,0,none⟩ (.int .i64 d.f0)).setCell ⟨z,1,none⟩ (.int .i64 d.f1)).setCell ⟨z,2,none⟩ (.slice B2 d.f2.length b2)).setCell ⟨z,3,none⟩ (.slice B3 d.f3.length b3)).setCell ⟨z,4,none⟩ (.int .i64 d.f4)).setCell ⟨z,5,none⟩ (.int .i64 d.f5)):=⟨_,rfl⟩
   have D:Gx w0 w _ g b _ [z,A,G,g] [⟨z,[.int .i64 d.f0,.int .i64 d.f1,.slice B2 d.f2.length b2,.slice B3 d.f3.length b3,.int .i64 d.f4,.int .i64 d.f5],26⟩,⟨A,[.slice A0 m0 c0,.int .i64 y1,.bool y2,.slice (some ad) y3.length c3,.slice A4 m4 c4],64⟩,⟨G,[.int .i64 0,.int .i64 0,.slice none 0 0,.slice none 0 0,.int .i64 0,.int .i64 0],26⟩] (Ec b0 b1 ad i d (.slice B2 d.f2.length b2) (.slice B3 d.f3.length b3)):=M.o.ID 0 rfl;rw[<-ag]at D;rw[<-ag];clear M ag X Y Z E z4 y t0 t1 t2 t3 t4 t5 ty I J L O P T e0 e1 e2 e3 e4 e5 ey;have M:=a_ D;clear D;obtain⟨e0,e1,e2,e3,e4,e5,ey⟩:=M.o.B.c6 0 rfl;obtain⟨X,Y,Z,E,z4,y⟩:=M.o.B.c5 1 rfl;obtain⟨t0,t1,t2,t3,t4,t5,ty⟩:=M.o.B.c6 2 rfl;obtain⟨I,J,L,O,P,T⟩:=M.o.now.1;go_upto_region 4 with(go_at_call 16;(with_reducible refine(Ab.calls k g b p2 24 q p3 w0 _ M.o.hI M.o.hB HQ.o).mono ?_);rintro e aI ⟨rfl,hI,hB,B⟩;have D:=M.o.pick hI hB B;clear M hI hB B X Y Z E z4 y t0 t1 t2 t3 t4 t5 ty I J L O P T e0 e1 e2 e3 e4 e5 ey;have M:=a_ D;clear D;obtain⟨e0,e1,e2,e3,e4,e5,ey⟩:=M.o.B.c6 0 rfl;obtain⟨X,Y,Z,E,z4,y⟩:=M.o.B.c5 1 rfl;obtain⟨t0,t1,t2,t3,t4,t5,ty⟩:=M.o.B.c6 2 rfl;obtain⟨I,J,L,O,P,T⟩:=M.o.now.1)
   by_cases k0:q=0
   ·rw[Ry k0]at o;replace o:=BR o;obtain⟨⟨r,p4⟩,hr,o⟩:=o;simp only[Option.some.injEq,Prod.mk.injEq]at o;obtain⟨rfl,rfl,rfl,rfl,rfl,rfl,rfl⟩:=o;have HR:=a_ hr;clear hr;subst k0;go_wp2_with(go_at_call 16;(with_reducible refine(Ab.calls k g b p3 4 r p4 w0 _ M.o.hI M.o.hB HR.o).mono ?_);rintro e ay ⟨rfl,hI,hB,B⟩;have D:=M.o.pick hI hB B;clear M hI hB B X Y Z E z4 y t0 t1 t2 t3 t4 t5 ty I J L O P T e0 e1 e2 e3 e4 e5 ey;have M:=a_ D;clear D;obtain⟨e0,e1,e2,e3,e4,e5,ey⟩:=M.o.B.c6 0 rfl;obtain⟨X,Y,Z,E,z4,y⟩:=M.o.B.c5 1 rfl;obtain⟨t0,t1,t2,t3,t4,t5,ty⟩:=M.o.B.c6 2 rfl;obtain⟨I,J,L,O,P,T⟩:=M.o.now.1;have ah:G≠z:=M.o.B.ne (i:=2) (i':=0) rfl rfl (by decide);have ao:z≠G:=λe=>ah e.symm;have ai:A≠z:=M.o.B.ne (i:=1) (i':=0) rfl rfl (by decide);have aq:z≠A:=λe=>ai e.symm);have D2:Gx w0 w _ g b _ _ [⟨z,[.int .i64 d.f0,.int .i64 d.f1,.slice B2 d.f2.length b2,.slice B3 d.f3.length b3,.int .i64 r,.int .i64 d.f5],26⟩,⟨A,[.slice A0 m0 c0,.int .i64 y1,.bool y2,.slice (some ad) y3.length c3,.slice A4 m4 c4],64⟩,⟨G,[.int .i64 d.f0,.int .i64 d.f1,.slice B2 d.f2.length b2,.slice B3 d.f3.length b3,.int .i64 r,.int .i64 d.f5],26⟩] _:=(M.o.put 0 4 (.int .i64 r) rfl).ID 2 rfl;have DB:=D2.B.Ex 2 rfl;refine RH (RF rfl _ _ G 26 #[.int .i64 d.f0,.int .i64 d.f1,.slice B2 d.f2.length b2,.slice B3 d.f3.length b3,.int .i64 r,.int .i64 d.f5] (0,0) _ rfl DB RP rfl (by kernel_rfl)) rfl ?_;exact⟨_,_,rfl,Kd.AU (Kd.Ai D2.now.2.1 (λ_ _=>trivial)) LB.o.2.2.1,Kd.AU (Kd.Ai D2.now.2.2 (λ_ _=>trivial)) LB.o.2.2.1,D2.hI,D2.hB,D2.CU⟩
   rw[Rz k0]at o;have n0:(q==0)=false:=Dr k0;by_cases k1:q=1
   ·rw[Ry k1]at o;replace o:=BR o;obtain⟨⟨r,p4⟩,hr,o⟩:=o;replace o:=BR o;obtain⟨⟨o0,o1,o2,o3,o4,p5⟩,ho,o⟩:=o;dsimp only at o ho;by_cases cn:d.f3.length<1000000
    ·rw[Ry cn]at o;obtain⟨ln,al⟩:∃l:Dy,l=d.f3++[⟨d.f0,wrap64 (1+r),⟨o0,o1,o2,o3,o4⟩⟩]:=⟨_,rfl⟩
     rw[<-al]at o;have aw:=a_ al;clear al;simp only[Option.some.injEq,Prod.mk.injEq]at o;obtain⟨rfl,rfl,rfl,rfl,rfl,rfl,rfl⟩:=o;have HR:=a_ hr;have HO:=a_ ho;have LN:=a_ cn;clear hr ho cn;subst k1;go_upto_region 7 with(fail)
     have Md:=a_ M.o.drew;clear M;have M:=Md;clear Md;refine Cl (n:=14) (S:=λw'=>w'.cell? ⟨z,3,none⟩=some (.slice B3 d.f3.length b3)∧w'.cell? ⟨z,0,none⟩=some (.int .i64 d.f0)) (ds:=[13]) #[false,false,false,false,false,false,false,false,false,false,false,false,false,false] (by kernel_rfl) rfl rfl ⟨e3,e0⟩ (λm=>?_);refine Bf 0 25 ?_;refine Bf 2 27 ?_;refine Bf 4 29 ?_;refine Bf 7 32 ?_;refine KQ 1 26 m ?_;refine KQ 3 28 m ?_;refine E7 5 30 (λK hK=>?_);refine C7 R0 (by kernel_rfl) rfl #[.pointer (some ⟨g,0,none⟩),.int .i64 9] (by rfl) rfl rfl (by simp only[List.map_toArray,List.map_cons,List.map_nil];rfl) ?_;with_reducible refine(Ab.calls k g b p3 9 r p4 w0 _ M.o.hI M.o.hB HR.o).mono ?_
     rintro e ay ⟨rfl,hI,hB,B⟩;refine⟨_,rfl,?_⟩;have D:=M.o.pick hI hB B;clear M hI hB B X Y Z E z4 y t0 t1 t2 t3 t4 t5 ty I J L O P T e0 e1 e2 e3 e4 e5 ey;have M:=a_ D;clear D;obtain⟨e0,e1,e2,e3,e4,e5,ey⟩:=M.o.B.c6 0 rfl;obtain⟨X,Y,Z,E,z4,y⟩:=M.o.B.c5 1 rfl;obtain⟨t0,t1,t2,t3,t4,t5,ty⟩:=M.o.B.c6 2 rfl;obtain⟨I,J,L,O,P,T⟩:=M.o.now.1;refine hK.out _ _ ⟨e3,e0⟩ (λm=>?_);clear hK K;refine Er 30 ?_;refine Bf 6 31 ?_;refine E7 8 33 (λK hK=>?_);refine C7 Tryd.func23 (by kernel_rfl) rfl #[.pointer (some ⟨g,0,none⟩)] (by rfl) rfl rfl (by simp only[List.map_toArray,List.map_cons,List.map_nil];rfl) ?_;with_reducible refine(AX.calls k g b p4 o0 o1 o2 o3 o4 p5 w0 _ M.o.hI M.o.hB HO.o).mono ?_
     rintro e az ⟨rfl,hI,hB,B⟩;refine⟨_,rfl,?_⟩;have D:=M.o.pick hI hB B;clear M hI hB B X Y Z E z4 y t0 t1 t2 t3 t4 t5 ty I J L O P T e0 e1 e2 e3 e4 e5 ey;have M:=a_ D;clear D;obtain⟨e0,e1,e2,e3,e4,e5,ey⟩:=M.o.B.c6 0 rfl;obtain⟨X,Y,Z,E,z4,y⟩:=M.o.B.c5 1 rfl;obtain⟨t0,t1,t2,t3,t4,t5,ty⟩:=M.o.B.c6 2 rfl;obtain⟨I,J,L,O,P,T⟩:=M.o.now.1;refine hK.out _ _ ⟨e3,e0⟩ (λm=>?_);clear hK K;refine Er 33 ?_;refine Bf 9 34 ?_;refine E7 10 35 (λK hK=>?_);refine Gi (w1:=?_) (v:=?_) (by rfl) rfl ?_ ?_;rotate_left 2
     ·go_simp;constructor
      ·rfl
      rfl
     refine hK.out _ _ ⟨Em (FT (RG _ _) _) e3,Em (FT (RG _ _) _) e0⟩ (λm=>?_);clear hK K;refine Er 35 ?_;refine E7 11 36 (λK hK=>?_);refine Kd.Fl Ck (w0:=az) b0 (by rfl) (.tmp 26) (.tmp 35) 24 32 (.agg #[(.int .i64 0),(.int .i64 0),(.int .i64 0),(.int .i64 0),(.int .i64 0),(.int .i64 0),(.string ⟨#[]⟩)]) 64 rfl R8 Dv rfl (by decide) (by omega) (.slice B3 d.f3.length b3) d.f3 (⟨d.f0,wrap64 (1+r),⟨o0,o1,o2,o3,o4⟩⟩:AQ) [.int .i64 d.f0,.int .i64 (wrap64 (1+r)),.int .i64 o0,.int .i64 o1,.int .i64 o2,.int .i64 o3,.string o4] (λk=>k∉[z,A,G,g]) (λ_=>False) rfl rfl (EX _ _ _ (⟨d.f0,wrap64 (1+r),⟨o0,o1,o2,o3,o4⟩⟩:AQ)) (λ_ h=>h.elim) (λk B=>M.o.OZ B) ?aO (RG _ _) ?aS ?aL ?_;(case aO=>exact Kd.Ai M.o.now.2.2 (λk B e=>by have h1:=LB.o;have h2:=LG.o;have h3:=LC.o;simp only[List.mem_cons,List.not_mem_nil,or_false]at e;rcases e with e|e|e|e <;> omega));(case aS=>exact RJ LB.o.2.2.2 (RJ LC.o (Nat.le_of_lt (M.o.hl z (by simp)))));(case aL=>have:=LN.o;omega);intro v9 av ho hb hg ax;rw[<-aw.o]at ho;obtain⟨B9,b9,e9⟩:=Kd.Be ho;subst e9;have h2:Kd.R Dd 68 av b0 (λk=>k∉[z,A,G,g]) (.slice B2 d.f2.length b2) d.f2:=Kd.Ai (Kd.DL M.o.now.2.1 (Kd.Ca M.o.now.2.2) (by decide) hg) (λk B e=>by have h1:=LB.o;have h2:=LG.o;have h3:=LC.o;simp only[List.mem_cons,List.not_mem_nil,or_false]at e;rcases e with e|e|e|e <;> omega);have D:Gx w0 w av g b p5 [z,A,G,g] [⟨z,[.int .i64 d.f0,.int .i64 d.f1,.slice B2 d.f2.length b2,.slice B3 d.f3.length b3,.int .i64 d.f4,.int .i64 d.f5],26⟩,⟨A,[.slice A0 m0 c0,.int .i64 y1,.bool y2,.slice (some ad) y3.length c3,.slice A4 m4 c4],64⟩,⟨G,[.int .i64 0,.int .i64 0,.slice none 0 0,.slice none 0 0,.int .i64 0,.int .i64 0],26⟩] (λW=>Kd.R Dd 68 W b0 (λk=>k∉[z,A,G,g]) (.slice B2 d.f2.length b2) d.f2∧Kd.R Ck 32 W b0 (λk=>k∉[z,A,G,g]) (.slice B9 ln.length b9) ln):=M.o.P6 hg hb (RJ M.o.hw LB.o.2.2.1) (λk B=>by have aF:=M.o.now.2.2.1 k B;have h1:=LB.o;have h2:=LG.o;have h3:=LC.o;refine⟨λe=>?_,by omega⟩;simp only[List.mem_cons,List.not_mem_nil,or_false]at e;rcases e with e|e|e|e <;> omega) (λW' hW=>⟨Kd.Eo h2 hW,Kd.Eo ho hW⟩);clear M ho hb hg ax h2 X Y Z E z4 y t0 t1 t2 t3 t4 t5 ty I J L O P T e0 e1 e2 e3 e4 e5 ey;have M:=a_ D;clear D;obtain⟨e0,e1,e2,e3,e4,e5,ey⟩:=M.o.B.c6 0 rfl;obtain⟨X,Y,Z,E,z4,y⟩:=M.o.B.c5 1 rfl;obtain⟨t0,t1,t2,t3,t4,t5,ty⟩:=M.o.B.c6 2 rfl;refine hK.out _ _ ⟨e3,e0⟩ (λm=>?_);clear hK K;refine Er 36 ?_;refine Bf 12 37 ?_;refine Fe (i:=13) (N:=none) #[true,true,true,true,true,true,true,true,true,true,true,true,true,true] rfl rfl (by kernel_rfl) (by decide) (λK hK=>?_);refine EL (w1:=?_) (by rfl) rfl ?_ ?_;rotate_left
     ·go_simp;rfl
     refine hK.out _ _ ?_;clear hK K;refine CV (by kernel_rfl) ?_;have ah:G≠z:=M.o.B.ne (i:=2) (i':=0) rfl rfl (by decide);have ao:z≠G:=λe=>ah e.symm
     have ai:A≠z:=M.o.B.ne (i:=1) (i':=0) rfl rfl (by decide);have aq:z≠A:=λe=>ai e.symm
     go_wp2;have D2:Gx w0 w _ g b _ _ [⟨z,[.int .i64 d.f0,.int .i64 d.f1,.slice B2 d.f2.length b2,.slice B9 ln.length b9,.int .i64 d.f4,.int .i64 d.f5],26⟩,⟨A,[.slice A0 m0 c0,.int .i64 y1,.bool y2,.slice (some ad) y3.length c3,.slice A4 m4 c4],64⟩,⟨G,[.int .i64 d.f0,.int .i64 d.f1,.slice B2 d.f2.length b2,.slice B9 ln.length b9,.int .i64 d.f4,.int .i64 d.f5],26⟩] _:=(M.o.put 0 3 (.slice B9 ln.length b9) rfl).ID 2 rfl;have DB:=D2.B.Ex 2 rfl;refine RH (RF rfl _ _ G 26 #[.int .i64 d.f0,.int .i64 d.f1,.slice B2 d.f2.length b2,.slice B9 ln.length b9,.int .i64 d.f4,.int .i64 d.f5] (0,0) _ rfl DB RP rfl (by kernel_rfl)) rfl ?_;exact⟨_,_,rfl,Kd.AU (Kd.Ai D2.now.1 (λ_ _=>trivial)) LB.o.2.2.1,Kd.AU (Kd.Ai D2.now.2 (λ_ _=>trivial)) LB.o.2.2.1,D2.hI,D2.hB,D2.CU⟩
    rw[Rz cn]at o;exact absurd o (by simp)
   rw[Rz k1]at o;have n1:(q==1)=false:=Dr k1;simp only[Option.some.injEq,Prod.mk.injEq]at o;obtain⟨rfl,rfl,rfl,rfl,rfl,rfl,rfl⟩:=o;have ah:G≠z:=M.o.B.ne (i:=2) (i':=0) rfl rfl (by decide);have ao:z≠G:=λe=>ah e.symm
   have ai:A≠z:=M.o.B.ne (i:=1) (i':=0) rfl rfl (by decide);have aq:z≠A:=λe=>ai e.symm
   go_wp2;have D2:Gx w0 w _ g b _ _ [⟨z,[.int .i64 d.f0,.int .i64 d.f1,.slice B2 d.f2.length b2,.slice B3 d.f3.length b3,.int .i64 d.f4,.int .i64 d.f5],26⟩,⟨A,[.slice A0 m0 c0,.int .i64 y1,.bool y2,.slice (some ad) y3.length c3,.slice A4 m4 c4],64⟩,⟨G,[.int .i64 d.f0,.int .i64 d.f1,.slice B2 d.f2.length b2,.slice B3 d.f3.length b3,.int .i64 d.f4,.int .i64 d.f5],26⟩] _:=M.o.ID 2 rfl;have DB:=D2.B.Ex 2 rfl;refine RH (RF rfl _ _ G 26 #[.int .i64 d.f0,.int .i64 d.f1,.slice B2 d.f2.length b2,.slice B3 d.f3.length b3,.int .i64 d.f4,.int .i64 d.f5] (0,0) _ rfl DB RP rfl (by kernel_rfl)) rfl ?_;exact⟨_,_,rfl,Kd.AU (Kd.Ai D2.now.2.1 (λ_ _=>trivial)) LB.o.2.2.1,Kd.AU (Kd.Ai D2.now.2.2 (λ_ _=>trivial)) LB.o.2.2.1,D2.hI,D2.hB,D2.CU⟩
  rw[Rz c2]at o;exact absurd o (by simp)
 rw[Rz c1]at o;exact absurd o (by simp)
end Go.Proofs.YtlhlpfnljglhoaaDoor.P
namespace Go.Proofs.YtlhlpfnljglhoaaDoor.P
open Go.RowKit Go.Proofs.YtlhlpfnljglhoaaDoorW.PrintWords Go.Proofs.YtlhlpfnljglhoaaDoorW.Bb
def AH.j0:Nat->Bool->List Int->Int->Int->Int->List (Ba)->List (AQ)->Int->Int->Option (Int×Int×(List (Ba))×(List (AQ))×Int×Int×Int×Int×Int×Int×ByteArray)
 | 0,_,_,_,_,_,_,_,_,_=>none
 | k+1,o,i,j,c,l,d,e,m,g=>if o=true then((AX.f k i j).bind λa=>(some (c,l,d,e,m,g,a.1,a.2.1,a.2.2.1,a.2.2.2.1,a.2.2.2.2.1)))else((BS.f k d e).bind λn=>((Aw.f k i j n c g).bind λb=>(some (c,l,d,e,m,g,b.1,b.2.1,b.2.2.1,b.2.2.2.1,b.2.2.2.2.1))))
def AH.f(k:Nat)(l0:List Int):Option (Int×Int×(List (Ba))×(List (AQ))×Int×Int×Int×Int×Int×Int×ByteArray):=(D8.f l0).bind λb=>((Df.f k b.1 b.2).bind λa=>((Ab.f k b.1 a.2.2.2.2.2.2 4).bind λc=>(if c.1=0 then(AH.j0 k true b.1 c.2 a.1 a.2.1 a.2.2.1 a.2.2.2.1 a.2.2.2.2.1 a.2.2.2.2.2.1)else((Ap.f k a.1 a.2.1 a.2.2.1 a.2.2.2.1 a.2.2.2.2.1 a.2.2.2.2.2.1).bind λd=>(AH.j0 k (!d) b.1 c.2 a.1 a.2.1 a.2.2.1 a.2.2.2.1 a.2.2.2.2.1 a.2.2.2.2.2.1)))))
def AH.T5:Bool×List (List Nat×List Nat):=(true,[([],[]),([],[]),([],[]),([2],[2]),([],[]),([4],[4]),([3,5],[3,5]),([],[]),([7],[7]),([],[]),([9],[9]),([1,6,8,10,6],[1,6,8,10]),([0,11,0],[0]),([11,12,0,1,2,3,4,5,6,7,8,9,10,11,12],[11])])
def AH.B5:List Nat:=[0,0,0,4,0,16,60,0,128,0,512,2046,4095,8191]
theorem AH.I8:EK .any (opsOf Tryd.f8 5)=AH.T5:=by kernel_rfl
theorem AH.Gr:DS AH.T5.2 AH.B5=true:=by kernel_rfl
theorem AH.calls(k:Nat)(A0:Option Addr)(c0:Nat)(l0:List Int)(r1:Int)(r2:Int)(r3:List (Ba))(r4:List (AQ))(r5:Int)(r6:Int)(r7:Int)(r8:Int)(r9:Int)(aD:Int)(aE:ByteArray)(w:World)(dF:Kd.C (Kd.int .u8) w A0 l0.length l0)(bP:l0.length≤c0)(h:AH.f k l0=some (r1,r2,r3,r4,r5,r6,r7,r8,r9,aD,aE)) :
  Calls Tryd.prog 8 #[.slice A0 l0.length c0] w λe w'=>∃dI dJ:Value,e=.returned (.tuple #[.agg #[.int .i64 r1,.int .i64 r2,dI,dJ,.int .i64 r5,.int .i64 r6],.agg #[.int .i64 r7,.int .i64 r8,.int .i64 r9,.int .i64 aD,.string aE]])∧Kd.R Dd 68 w' w.heap.size (λ_=>True) dI r3∧Kd.R Ck 32 w' w.heap.size (λ_=>True) dJ r4∧Below w.heap.size w w':=by
 have e6:=RP;have e7:=RW;have dS:=a_ dF;have dR:=a_ bP;clear dF bP;have HB:=a_ (RG w.heap.size w);have H:((D8.f l0).bind λaH=>((Df.f k aH.1 aH.2).bind λE=>((Ab.f k aH.1 E.2.2.2.2.2.2 4).bind λan=>(if an.1=0 then(AH.j0 k true aH.1 an.2 E.1 E.2.1 E.2.2.1 E.2.2.2.1 E.2.2.2.2.1 E.2.2.2.2.2.1)else((Ap.f k E.1 E.2.1 E.2.2.1 E.2.2.2.1 E.2.2.2.2.1 E.2.2.2.2.2.1).bind λaq=>(AH.j0 k (!aq) aH.1 an.2 E.1 E.2.1 E.2.2.1 E.2.2.2.1 E.2.2.2.2.1 E.2.2.2.2.2.1))))))=some (r1,r2,r3,r4,r5,r6,r7,r8,r9,aD,aE):=h;clear h;replace H:=BR H;obtain⟨⟨W,a4⟩,bH,H⟩:=H;replace H:((Df.f k W a4).bind λE=>((Ab.f k W E.2.2.2.2.2.2 4).bind λan=>(if an.1=0 then(AH.j0 k true W an.2 E.1 E.2.1 E.2.2.1 E.2.2.2.1 E.2.2.2.2.1 E.2.2.2.2.2.1)else((Ap.f k E.1 E.2.1 E.2.2.1 E.2.2.2.1 E.2.2.2.2.1 E.2.2.2.2.2.1).bind λaq=>(AH.j0 k (!aq) W an.2 E.1 E.2.1 E.2.2.1 E.2.2.2.1 E.2.2.2.2.1 E.2.2.2.2.2.1)))))=some (r1,r2,r3,r4,r5,r6,r7,r8,r9,aD,aE):=H;have A2:=a_ bH;clear bH;replace H:=BR H;obtain⟨⟨M,T,I,J,U,O,ar⟩,bI,H⟩:=H;replace H:((Ab.f k W ar 4).bind λan=>(if an.1=0 then(AH.j0 k true W an.2 M T I J U O)else((Ap.f k M T I J U O).bind λaq=>(AH.j0 k (!aq) W an.2 M T I J U O))))=some (r1,r2,r3,r4,r5,r6,r7,r8,r9,aD,aE):=H;have A3:=a_ bI;clear bI;have bc:=a_ H;clear H;go_enter Tryd.func8,Tryd.ntmps8;go_upto_region 3 with(first|((with_reducible refine BV (N:=2) rfl ?_);refine Gz ?hg (N:=2) ?hd (cs:=#[.int .i64 0,.int .i64 0,.slice none 0 0,.slice none 0 0,.int .i64 0,.int .i64 0]) (t:=26) ?hr ?_;(case hd=>rfl);(case hg=>rfl);(case hr=>first|(go_simp;done)|(go_simp;rfl));intro l hg w5 aF hb;have c:=a_ (aF);have dO:=a_ ((by rw[hg];exact(Af (by repeat(first|(with_reducible first|exact HB.o|apply FT|apply Au|apply Ay)|exact HB.o))):w.heap.size≤l));have X:=a_ ((by rw[hg];exact(Af (by repeat(first|(with_reducible first|exact HB.o|apply FT|apply Au|apply Ay)|exact HB.o))):w.heap.size≤l));replace HB:=a_ (IY (by repeat(first|(with_reducible first|exact HB.o|apply FT|apply Au|apply Ay)|exact HB.o)) hb);clear hb aF hg)|((with_reducible refine BV (N:=3) rfl ?_);refine Gz ?hg (N:=3) ?hd (cs:=#[.int .i64 0,.int .i64 0,.int .i64 0,.int .i64 0,.string (⟨#[]⟩:ByteArray)]) (t:=30) ?hr ?_;(case hd=>rfl);(case hg=>rfl);(case hr=>first|(go_simp;done)|(go_simp;rfl));intro r hg w6 aF hb;have d:=a_ (aF);have dP:=a_ ((by rw[hg];exact(Af (by repeat(first|(with_reducible first|exact HB.o|apply FT|apply Au|apply Ay|refine DK ?_ X.o)|exact HB.o))):w.heap.size≤r));have Z:=a_ ((by rw[hg];exact(Af (by repeat(first|(with_reducible first|exact HB.o|apply FT|apply Au|apply Ay|refine DK ?_ X.o)|exact HB.o))):w.heap.size≤r));have m:=a_ ((by rw[hg];exact RN (Av (g:=l) (o:=.cells #[.int .i64 0,.int .i64 0,.slice none 0 0,.slice none 0 0,.int .i64 0,.int .i64 0] 26 (0,0)) (Bc c.o)):l≠r));have p:=a_ ((by rw[hg];exact RM (Av (g:=l) (o:=.cells #[.int .i64 0,.int .i64 0,.slice none 0 0,.slice none 0 0,.int .i64 0,.int .i64 0] 26 (0,0)) (Bc c.o)):r≠l));replace c:=a_ (Ao (g:=l) (o:=.cells #[.int .i64 0,.int .i64 0,.slice none 0 0,.slice none 0 0,.int .i64 0,.int .i64 0] 26 (0,0)) (Bc c.o) hb);replace HB:=a_ (IY (by repeat(first|(with_reducible first|exact HB.o|apply FT|apply Au|apply Ay|refine DK ?_ X.o)|exact HB.o)) hb);clear hb aF hg)|((with_reducible refine BQ (f:=14) rfl ?_);refine G1 (some 7) rfl rfl Tryd.func14 (by kernel_rfl) rfl #[.slice A0 l0.length c0] rfl (by(try simp only[List.map_toArray,List.map_cons,List.map_nil]);first|done|rfl|(simp only[List.length_drop,List.length_take];rfl)) ?_;(with_reducible refine(D8.calls _ _ l0 W a4 w _ ?q' ?z' ?y' A2.o).mono ?_);(case q'=>repeat(first|(with_reducible first|exact HB.o|apply FT|apply Au|apply Ay|refine DK ?_ X.o|refine DK ?_ Z.o)|exact HB.o));(case z'=>exact dS.o);(case y'=>exact dR.o);rintro e w7 ⟨Y,rfl,hi,hb,au⟩;refine⟨_,rfl,?_⟩;have b:=a_ (hi);have x:=a_ (Ad.J8 hi (Ao (g:=l) (o:=.cells #[.int .i64 0,.int .i64 0,.slice none 0 0,.slice none 0 0,.int .i64 0,.int .i64 0] 26 (0,0)) (Bc c.o) au) (by decide));have ak:=a_ (T_ (Ad.J8 hi (Ao (g:=l) (o:=.cells #[.int .i64 0,.int .i64 0,.slice none 0 0,.slice none 0 0,.int .i64 0,.int .i64 0] 26 (0,0)) (Bc c.o) au) (by decide)));have y:=a_ (Ad.J8 hi (Ao (g:=r) (o:=.cells #[.int .i64 0,.int .i64 0,.int .i64 0,.int .i64 0,.string (⟨#[]⟩:ByteArray)] 30 (0,0)) (Bc d.o) au) (by decide));have al:=a_ (T_ (Ad.J8 hi (Ao (g:=r) (o:=.cells #[.int .i64 0,.int .i64 0,.int .i64 0,.int .i64 0,.string (⟨#[]⟩:ByteArray)] 30 (0,0)) (Bc d.o) au) (by decide)));replace c:=a_ (Ao (g:=l) (o:=.cells #[.int .i64 0,.int .i64 0,.slice none 0 0,.slice none 0 0,.int .i64 0,.int .i64 0] 26 (0,0)) (Bc c.o) au);replace d:=a_ (Ao (g:=r) (o:=.cells #[.int .i64 0,.int .i64 0,.int .i64 0,.int .i64 0,.string (⟨#[]⟩:ByteArray)] 30 (0,0)) (Bc d.o) au);replace HB:=a_ (hb);(try clear hb);(try clear au);(try clear hk);(try clear hi))|((with_reducible refine BQ (f:=15) rfl ?_);refine G1 (some 9) rfl rfl Tryd.func15 (by kernel_rfl) rfl #[.pointer (some ⟨Y,0,none⟩)] rfl (by(try simp only[List.map_toArray,List.map_cons,List.map_nil]);first|done|rfl|(simp only[List.length_drop,List.length_take];rfl)) ?_;(with_reducible refine(Df.calls k Y W a4 M T I J U O ar w _ ?q' ?z' A3.o).mono ?_);(case q'=>repeat(first|(with_reducible first|exact b.o|apply Ad.alloc|apply Ad.drewN|apply Ad.drew|apply Ad.EC|refine Ad.ER ?_ x.o _|refine Ad.ER ?_ y.o _)|exact b.o));(case z'=>repeat(first|(with_reducible first|exact HB.o|apply FT|apply Au|apply Ay|refine DK ?_ (Ad.ge b.o)|refine DK ?_ X.o|refine DK ?_ Z.o)|exact HB.o));rintro e w8 ⟨e8,e9,rfl,a0,dE,hi,hb,hk⟩;refine⟨_,rfl,?_⟩;have ag:=a_ (Kd.AU a0 (Af (by repeat(first|(with_reducible first|exact HB.o|apply FT|apply Au|apply Ay|refine DK ?_ (Ad.ge b.o)|refine DK ?_ X.o|refine DK ?_ Z.o)|exact HB.o))));have ah:=a_ (Kd.AU dE (Af (by repeat(first|(with_reducible first|exact HB.o|apply FT|apply Au|apply Ay|refine DK ?_ (Ad.ge b.o)|refine DK ?_ X.o|refine DK ?_ Z.o)|exact HB.o))));replace c:=a_ (Ah.Ex hk (g':=l) (o:=.cells #[.int .i64 0,.int .i64 0,.slice none 0 0,.slice none 0 0,.int .i64 0,.int .i64 0] 26 (0,0)) (Bc c.o) ak.o (by simp));replace d:=a_ (Ah.Ex hk (g':=r) (o:=.cells #[.int .i64 0,.int .i64 0,.int .i64 0,.int .i64 0,.string (⟨#[]⟩:ByteArray)] 30 (0,0)) (Bc d.o) al.o (by simp));replace HB:=a_ (hb);replace b:=a_ (hi);(try clear hb);(try clear au);(try clear hk);(try clear hi);(try clear a0);(try clear dE))|((with_reducible refine BV (N:=5) rfl ?_);refine Gz ?hg (N:=5) ?hd (cs:=#[.int .i64 0,.int .i64 0,.slice none 0 0,.slice none 0 0,.int .i64 0,.int .i64 0]) (t:=26) ?hr ?_;(case hd=>rfl);(case hg=>rfl);(case hr=>first|(go_simp;done)|(go_simp;rfl));intro A hg w9 aF hb;have a:=a_ (aF);have dQ:=a_ ((by rw[hg];exact(Af (by repeat(first|(with_reducible first|exact HB.o|apply FT|apply Au|apply Ay|refine DK ?_ (Ad.ge b.o)|refine DK ?_ X.o|refine DK ?_ Z.o)|exact HB.o))):w.heap.size≤A));have aj:=a_ ((by rw[hg];exact(Af (by repeat(first|(with_reducible first|exact HB.o|apply FT|apply Au|apply Ay|refine DK ?_ (Ad.ge b.o)|refine DK ?_ X.o|refine DK ?_ Z.o)|exact HB.o))):w.heap.size≤A));have G:=a_ ((by rw[hg];exact RN (Av (g:=l) (o:=.cells #[.int .i64 0,.int .i64 0,.slice none 0 0,.slice none 0 0,.int .i64 0,.int .i64 0] 26 (0,0)) (Bc c.o)):l≠A));have j:=a_ ((by rw[hg];exact RM (Av (g:=l) (o:=.cells #[.int .i64 0,.int .i64 0,.slice none 0 0,.slice none 0 0,.int .i64 0,.int .i64 0] 26 (0,0)) (Bc c.o)):A≠l));have L:=a_ ((by rw[hg];exact RN (Av (g:=r) (o:=.cells #[.int .i64 0,.int .i64 0,.int .i64 0,.int .i64 0,.string (⟨#[]⟩:ByteArray)] 30 (0,0)) (Bc d.o)):r≠A));have q:=a_ ((by rw[hg];exact RM (Av (g:=r) (o:=.cells #[.int .i64 0,.int .i64 0,.int .i64 0,.int .i64 0,.string (⟨#[]⟩:ByteArray)] 30 (0,0)) (Bc d.o)):A≠r));have B:=a_ ((by rw[hg];exact RN (Ad.lt (show Ad w _ Y W ar from by repeat(first|(with_reducible first|exact b.o|apply Ad.alloc|apply Ad.drewN|apply Ad.drew|apply Ad.EC|refine Ad.ER ?_ x.o _|refine Ad.ER ?_ y.o _)|exact b.o))):Y≠A));have ai:=a_ ((by rw[hg];exact RM (Ad.lt (show Ad w _ Y W ar from by repeat(first|(with_reducible first|exact b.o|apply Ad.alloc|apply Ad.drewN|apply Ad.drew|apply Ad.EC|refine Ad.ER ?_ x.o _|refine Ad.ER ?_ y.o _)|exact b.o))):A≠Y));replace ag:=a_ (Kd.AJ (by refine AV ?_;exact ag.o) hb);replace ah:=a_ (Kd.AJ (by refine AV ?_;exact ah.o) hb);replace c:=a_ (Ao (g:=l) (o:=.cells #[.int .i64 0,.int .i64 0,.slice none 0 0,.slice none 0 0,.int .i64 0,.int .i64 0] 26 (0,0)) (Bc c.o) hb);replace d:=a_ (Ao (g:=r) (o:=.cells #[.int .i64 0,.int .i64 0,.int .i64 0,.int .i64 0,.string (⟨#[]⟩:ByteArray)] 30 (0,0)) (Bc d.o) hb);replace HB:=a_ (IY (by repeat(first|(with_reducible first|exact HB.o|apply FT|apply Au|apply Ay|refine DK ?_ (Ad.ge b.o)|refine DK ?_ X.o|refine DK ?_ Z.o)|exact HB.o)) hb);replace b:=a_ (Ad.below (by repeat(first|(with_reducible first|exact b.o|apply Ad.alloc|apply Ad.drewN|apply Ad.drew|apply Ad.EC|refine Ad.ER ?_ x.o _|refine Ad.ER ?_ y.o _)|exact b.o)) hb);clear hb aF hg;have ew:=j.o;have eD:=G.o;have ey:=q.o;have eE:=L.o;have ez:=ai.o;have eF:=B.o;have bq:w9.cell? ⟨A,0,none⟩=some (.int .i64 0):=(Ax a.o 0).trans rfl;have br:w9.cell? ⟨A,1,none⟩=some (.int .i64 0):=(Ax a.o 1).trans rfl;have bu:w9.cell? ⟨A,2,none⟩=some (.slice none 0 0):=(Ax a.o 2).trans rfl;have bw:w9.cell? ⟨A,3,none⟩=some (.slice none 0 0):=(Ax a.o 3).trans rfl;have bx:w9.cell? ⟨A,4,none⟩=some (.int .i64 0):=(Ax a.o 4).trans rfl;have bz:w9.cell? ⟨A,5,none⟩=some (.int .i64 0):=(Ax a.o 5).trans rfl;have bd:=BU a.o 0;have be:=BU a.o 1;have bf:=BU a.o 2;have bg:=BU a.o 3;have bh:=BU a.o 4;have bj:=BU a.o 5;obtain⟨aa,ab,bL⟩:=Kd.Be ag.o;subst bL;obtain⟨ae,af,bM⟩:=Kd.Be ah.o;subst bM))
 (try simp only[Act.put,List.setIfInBounds_toArray,List.set_cons_zero,List.set_cons_succ]);go_cut [17] (λeJ wc=>∃(kq:Nat) (aN:Bool) (P:Int),eJ=.bool aN∧Ac (AH.j0 kq aN W P M T I J U O=some (r1,r2,r3,r4,r5,r6,r7,r8,r9,aD,aE))∧Ac (kq≤k)∧Ac (Kd.R Dd 68 wc w.heap.size (λ_=>True) (.slice aa I.length ab) I)∧Ac (Kd.R Ck 32 wc w.heap.size (λ_=>True) (.slice ae J.length af) J)∧Ac (wc.heap[l]?=some (.cells #[.int .i64 0,.int .i64 0,(.slice none 0 0),(.slice none 0 0),.int .i64 0,.int .i64 0] 26 (0,0)))∧Ac (wc.heap[r]?=some (.cells #[.int .i64 0,.int .i64 0,.int .i64 0,.int .i64 0,.string (⟨#[]⟩:ByteArray)] 30 (0,0)))∧Ac (wc.heap[A]?=some (.cells #[.int .i64 M,.int .i64 T,(.slice aa I.length ab),(.slice ae J.length af),.int .i64 U,.int .i64 O] 26 (0,0)))∧Ac (Ad w wc Y W P)∧Ac (Below w.heap.size w wc))
 case first =>
  have H:=bc.o;clear bc;replace H:=BR H;obtain⟨⟨aG,aJ⟩,a6,H⟩:=H;replace H:(if aG=0 then(AH.j0 k true W aJ M T I J U O)else((Ap.f k M T I J U O).bind λaq=>(AH.j0 k (!aq) W aJ M T I J U O)))=some (r1,r2,r3,r4,r5,r6,r7,r8,r9,aD,aE):=H;have bG:=a_ a6;clear a6;by_cases aO:aG=0
  ·rw[Ry aO]at H;have aC:(aG==0)=true:=RO.mpr aO;have a2:(aG != 0)=false:=Fc aO;clear aO;(first|rw[aC]|(simp only[BJ,BP];rw[aC])|skip);have H':=a_ H;clear H;go_wp2_with(first|((with_reducible refine BQ (f:=16) rfl ?_);refine G1 (some 11) rfl rfl R0 (by kernel_rfl) rfl #[.pointer (some ⟨Y,0,none⟩),.int .i64 4] rfl (by(try simp only[List.map_toArray,List.map_cons,List.map_nil]);first|done|rfl|(simp only[List.length_drop,List.length_take];rfl)) ?_;(with_reducible refine(Ab.calls k Y W ar 4 aG aJ w _ ?q' ?z' bG.o).mono ?_);(case q'=>repeat(first|(with_reducible first|exact b.o|apply Ad.alloc|apply Ad.drewN|apply Ad.drew|apply Ad.EC|refine Ad.ER ?_ x.o _|refine Ad.ER ?_ y.o _|refine Ad.ER ?_ B.o _)|exact b.o));(case z'=>repeat(first|(with_reducible first|exact HB.o|apply FT|apply Au|apply Ay|refine DK ?_ (Ad.ge b.o)|refine DK ?_ X.o|refine DK ?_ Z.o|refine DK ?_ aj.o)|exact HB.o));rintro e fc ⟨rfl,hi,hb,hk⟩;refine⟨_,rfl,?_⟩;replace c:=a_ (Ah.Ex hk (g':=l) (o:=.cells #[.int .i64 0,.int .i64 0,.slice none 0 0,.slice none 0 0,.int .i64 0,.int .i64 0] 26 (0,0)) (CZ G.o c.o) ak.o (by simp));replace d:=a_ (Ah.Ex hk (g':=r) (o:=.cells #[.int .i64 0,.int .i64 0,.int .i64 0,.int .i64 0,.string (⟨#[]⟩:ByteArray)] 30 (0,0)) (CZ L.o d.o) al.o (by simp));replace ag:=a_ (Kd.Ai (Kd.Br (Ad.apart (show Ad w _ Y W ar from by repeat(first|(with_reducible first|exact b.o|apply Ad.alloc|apply Ad.drewN|apply Ad.drew|apply Ad.EC|refine Ad.ER ?_ x.o _|refine Ad.ER ?_ y.o _|refine Ad.ER ?_ B.o _)|exact b.o)) (by refine AV ?_;exact(Kd.Ai (Dw (g:=A) (Kd.Aj ag.o a.o (by decide)) (λ_ hk=>hk.2) (.int .i64 M) (.int .i64 T) (.slice aa I.length ab) (.slice ae J.length af) (.int .i64 U) (.int .i64 O)) (λ_ h_=>h_.1))) (by decide)) hk (λ_ h=>h.2)) (λ_ h=>h.1));replace ah:=a_ (Kd.Ai (Kd.Br (Ad.apart (show Ad w _ Y W ar from by repeat(first|(with_reducible first|exact b.o|apply Ad.alloc|apply Ad.drewN|apply Ad.drew|apply Ad.EC|refine Ad.ER ?_ x.o _|refine Ad.ER ?_ y.o _|refine Ad.ER ?_ B.o _)|exact b.o)) (by refine AV ?_;exact(Kd.Ai (Dw (g:=A) (Kd.Aj ah.o a.o (by decide)) (λ_ hk=>hk.2) (.int .i64 M) (.int .i64 T) (.slice aa I.length ab) (.slice ae J.length af) (.int .i64 U) (.int .i64 O)) (λ_ h_=>h_.1))) (by decide)) hk (λ_ h=>h.2)) (λ_ h=>h.1));replace a:=a_ (Ah.Ex hk (g':=A) (o:=.cells #[.int .i64 M,.int .i64 T,.slice aa I.length ab,.slice ae J.length af,.int .i64 U,.int .i64 O] 26 (0,0)) (F4 a.o) ai.o (by simp));replace HB:=a_ (hb);replace b:=a_ (hi);(try clear hb);(try clear au);(try clear hk);(try clear hi)));go_meet
   exact⟨_,(true),(aJ),(by first|rfl|(simp;done)|(simp[*];done)),H',⟨by first|omega|exact RB _⟩,⟨by refine AV ?_;exact ag.o⟩,⟨by refine AV ?_;exact ah.o⟩,⟨Bc c.o⟩,⟨Bc d.o⟩,⟨Bc a.o⟩,⟨by repeat(first|(with_reducible first|exact b.o|apply Ad.alloc|apply Ad.drewN|apply Ad.drew|apply Ad.EC|refine Ad.ER ?_ x.o _|refine Ad.ER ?_ y.o _|refine Ad.ER ?_ B.o _)|exact b.o)⟩,⟨by repeat(first|(with_reducible first|exact HB.o|apply FT|apply Au|apply Ay|refine DK ?_ (Ad.ge b.o)|refine DK ?_ X.o|refine DK ?_ Z.o|refine DK ?_ aj.o)|exact HB.o)⟩⟩
  rw[Rz aO]at H;have aC:(aG==0)=false:=Dr aO;have a2:(aG != 0)=true:=RX.mpr aO;(first|rw[aC]|(simp only[BJ,BP];rw[aC])|skip);replace H:=BR H;obtain⟨aq,a7,H⟩:=H;replace H:(AH.j0 k (!aq) W aJ M T I J U O)=some (r1,r2,r3,r4,r5,r6,r7,r8,r9,aD,aE):=H;have dK:=a_ a7;clear a7;have H':=a_ H;clear H;go_wp2_with(first|((with_reducible refine BQ (f:=16) rfl ?_);refine G1 (some 11) rfl rfl R0 (by kernel_rfl) rfl #[.pointer (some ⟨Y,0,none⟩),.int .i64 4] rfl (by(try simp only[List.map_toArray,List.map_cons,List.map_nil]);first|done|rfl|(simp only[List.length_drop,List.length_take];rfl)) ?_;(with_reducible refine(Ab.calls k Y W ar 4 aG aJ w _ ?q' ?z' bG.o).mono ?_);(case q'=>repeat(first|(with_reducible first|exact b.o|apply Ad.alloc|apply Ad.drewN|apply Ad.drew|apply Ad.EC|refine Ad.ER ?_ x.o _|refine Ad.ER ?_ y.o _|refine Ad.ER ?_ B.o _)|exact b.o));(case z'=>repeat(first|(with_reducible first|exact HB.o|apply FT|apply Au|apply Ay|refine DK ?_ (Ad.ge b.o)|refine DK ?_ X.o|refine DK ?_ Z.o|refine DK ?_ aj.o)|exact HB.o));rintro e a1 ⟨rfl,hi,hb,hk⟩;refine⟨_,rfl,?_⟩;replace c:=a_ (Ah.Ex hk (g':=l) (o:=.cells #[.int .i64 0,.int .i64 0,.slice none 0 0,.slice none 0 0,.int .i64 0,.int .i64 0] 26 (0,0)) (CZ G.o c.o) ak.o (by simp));replace d:=a_ (Ah.Ex hk (g':=r) (o:=.cells #[.int .i64 0,.int .i64 0,.int .i64 0,.int .i64 0,.string (⟨#[]⟩:ByteArray)] 30 (0,0)) (CZ L.o d.o) al.o (by simp));replace ag:=a_ (Kd.Ai (Kd.Br (Ad.apart (show Ad w _ Y W ar from by repeat(first|(with_reducible first|exact b.o|apply Ad.alloc|apply Ad.drewN|apply Ad.drew|apply Ad.EC|refine Ad.ER ?_ x.o _|refine Ad.ER ?_ y.o _|refine Ad.ER ?_ B.o _)|exact b.o)) (by refine AV ?_;exact(Kd.Ai (Dw (g:=A) (Kd.Aj ag.o a.o (by decide)) (λ_ hk=>hk.2) (.int .i64 M) (.int .i64 T) (.slice aa I.length ab) (.slice ae J.length af) (.int .i64 U) (.int .i64 O)) (λ_ h_=>h_.1))) (by decide)) hk (λ_ h=>h.2)) (λ_ h=>h.1));replace ah:=a_ (Kd.Ai (Kd.Br (Ad.apart (show Ad w _ Y W ar from by repeat(first|(with_reducible first|exact b.o|apply Ad.alloc|apply Ad.drewN|apply Ad.drew|apply Ad.EC|refine Ad.ER ?_ x.o _|refine Ad.ER ?_ y.o _|refine Ad.ER ?_ B.o _)|exact b.o)) (by refine AV ?_;exact(Kd.Ai (Dw (g:=A) (Kd.Aj ah.o a.o (by decide)) (λ_ hk=>hk.2) (.int .i64 M) (.int .i64 T) (.slice aa I.length ab) (.slice ae J.length af) (.int .i64 U) (.int .i64 O)) (λ_ h_=>h_.1))) (by decide)) hk (λ_ h=>h.2)) (λ_ h=>h.1));replace a:=a_ (Ah.Ex hk (g':=A) (o:=.cells #[.int .i64 M,.int .i64 T,.slice aa I.length ab,.slice ae J.length af,.int .i64 U,.int .i64 O] 26 (0,0)) (F4 a.o) ai.o (by simp));replace HB:=a_ (hb);replace b:=a_ (hi);(try clear hb);(try clear au);(try clear hk);(try clear hi);have eA:=j.o;have eG:=G.o;have eB:=q.o;have eH:=L.o;have eC:=ai.o;have eI:=B.o;have bA:a1.cell? ⟨A,0,none⟩=some (.int .i64 M):=(Ax a.o 0).trans rfl;have bB:a1.cell? ⟨A,1,none⟩=some (.int .i64 T):=(Ax a.o 1).trans rfl;have bC:a1.cell? ⟨A,2,none⟩=some (.slice aa I.length ab):=(Ax a.o 2).trans rfl;have bD:a1.cell? ⟨A,3,none⟩=some (.slice ae J.length af):=(Ax a.o 3).trans rfl;have bE:a1.cell? ⟨A,4,none⟩=some (.int .i64 U):=(Ax a.o 4).trans rfl;have bF:a1.cell? ⟨A,5,none⟩=some (.int .i64 O):=(Ax a.o 5).trans rfl;have bk:=BU a.o 0;have bl:=BU a.o 1;have bm:=BU a.o 2;have bn:=BU a.o 3;have bo:=BU a.o 4;have bp:=BU a.o 5)|(go_at_call 7;(with_reducible refine(Ap.calls k M T _ _ I _ _ J U O aq _ ?q' ?z' ?y' ?v' dK.o).mono ?_);(case q'=>repeat(first|exact(Kd.At ag.o).2.2|(with_reducible refine Kd.C_alloc ?_ _)|(with_reducible refine Kd.B_ ?_ _)|(with_reducible refine Kd.C_drew ?_)));(case z'=>exact(Kd.At ag.o).2.1);(case y'=>repeat(first|exact(Kd.At ah.o).2.2|(with_reducible refine Kd.C_alloc ?_ _)|(with_reducible refine Kd.B_ ?_ _)|(with_reducible refine Kd.C_drew ?_)));(case v'=>exact(Kd.At ah.o).2.1);rintro e fe ⟨rfl,hb⟩;replace ag:=a_ (Kd.AJ (by refine AV ?_;exact ag.o) hb);replace ah:=a_ (Kd.AJ (by refine AV ?_;exact ah.o) hb);replace c:=a_ (Ao (g:=l) (o:=.cells #[.int .i64 0,.int .i64 0,.slice none 0 0,.slice none 0 0,.int .i64 0,.int .i64 0] 26 (0,0)) (Bc c.o) hb);replace d:=a_ (Ao (g:=r) (o:=.cells #[.int .i64 0,.int .i64 0,.int .i64 0,.int .i64 0,.string (⟨#[]⟩:ByteArray)] 30 (0,0)) (Bc d.o) hb);replace a:=a_ (Ao (g:=A) (o:=.cells #[.int .i64 M,.int .i64 T,.slice aa I.length ab,.slice ae J.length af,.int .i64 U,.int .i64 O] 26 (0,0)) (Bc a.o) hb);replace HB:=a_ (IY (by repeat(first|(with_reducible first|exact HB.o|apply FT|apply Au|apply Ay|refine DK ?_ (Ad.ge b.o)|refine DK ?_ X.o|refine DK ?_ Z.o|refine DK ?_ aj.o)|exact HB.o)) hb);replace b:=a_ (Ad.below (by repeat(first|(with_reducible first|exact b.o|apply Ad.alloc|apply Ad.drewN|apply Ad.drew|apply Ad.EC|refine Ad.ER ?_ x.o _|refine Ad.ER ?_ y.o _|refine Ad.ER ?_ B.o _)|exact b.o)) hb);(try clear hb);(try clear au);(try clear hk);(try clear hi)));go_meet
  exact⟨_,(!aq),(aJ),(by first|rfl|(simp;done)|(simp[*];done)),H',⟨by first|omega|exact RB _⟩,⟨by refine AV ?_;exact ag.o⟩,⟨by refine AV ?_;exact ah.o⟩,⟨Bc c.o⟩,⟨Bc d.o⟩,⟨Bc a.o⟩,⟨by repeat(first|(with_reducible first|exact b.o|apply Ad.alloc|apply Ad.drewN|apply Ad.drew|apply Ad.EC|refine Ad.ER ?_ x.o _|refine Ad.ER ?_ y.o _|refine Ad.ER ?_ B.o _)|exact b.o)⟩,⟨by repeat(first|(with_reducible first|exact HB.o|apply FT|apply Au|apply Ay|refine DK ?_ (Ad.ge b.o)|refine DK ?_ X.o|refine DK ?_ Z.o|refine DK ?_ aj.o)|exact HB.o)⟩⟩
 clear bc;try clear c1
 try clear aO
 try clear aC
 try clear a2
 try clear bq
 try clear br
 try clear bu
 try clear bw
 try clear bx
 try clear bz
 try clear bA
 try clear bB
 try clear bC
 try clear bD
 try clear bE
 try clear bF
 try clear bd
 try clear be
 try clear bf
 try clear bg
 try clear bh
 try clear bj
 try clear bk
 try clear bl
 try clear bm
 try clear bn
 try clear bo
 try clear bp
 obtain⟨kq,aN,P,rfl,HA,fa,z,u,c,d,a,b,HB⟩:=hcut;cases kq with
 | zero=>exact absurd HA.o (by simp[AH.j0])
 | succ aZ =>
  have H:=HA.o
  clear HA
  simp only[AH.j0]at H
  by_cases a5:aN=true
  ·subst a5
   have H1:((AX.f aZ W P).bind λaI=>(some (M,T,I,J,U,O,aI.1,aI.2.1,aI.2.2.1,aI.2.2.2.1,aI.2.2.2.2.1)))=some (r1,r2,r3,r4,r5,r6,r7,r8,r9,aD,aE):=by rw[Ry rfl]at H;exact H
   clear H
   have H:=H1
   clear H1
   replace H:=BR H
   obtain⟨⟨aP,aQ,aR,aS,aT,dG⟩,a8,H⟩:=H
   replace H:(some (M,T,I,J,U,O,aP,aQ,aR,aS,aT))=some (r1,r2,r3,r4,r5,r6,r7,r8,r9,aD,aE):=H
   have dL:=a_ a8
   clear a8
   simp only[Option.some.injEq,Prod.mk.injEq]at H
   obtain⟨rfl,rfl,rfl,rfl,rfl,rfl,rfl,rfl,rfl,rfl,rfl⟩:=H
   try go_wp2
   have n0_:=a_ (Kd.D_ z.o)
   have av:=a_ (Kd.D_ u.o)
   have aw:=a_ (Du c.o)
   have ax:=a_ (Du d.o)
   have ay:=a_ (Du a.o)
   have az:=a_ (Ad.drew b.o)
   have aA:=a_ (Ay HB.o)
   clear z
   clear u
   clear c
   clear d
   clear a
   clear b
   clear HB
   have z:=n0_
   have u:=av
   have c:=aw
   have d:=ax
   have a:=ay
   have b:=az
   have HB:=aA
   clear n0_ av aw ax ay az aA
   refine Cl (n:=5) (S:=λw'=>w'.cell? ⟨A,0,none⟩=some (.int .i64 M)∧w'.cell? ⟨A,1,none⟩=some (.int .i64 T)∧w'.cell? ⟨A,2,none⟩=some (.slice aa I.length ab)∧w'.cell? ⟨A,3,none⟩=some (.slice ae J.length af)∧w'.cell? ⟨A,4,none⟩=some (.int .i64 U)∧w'.cell? ⟨A,5,none⟩=some (.int .i64 O)) (ds:=[]) #[false,false,false,false,false] (by kernel_rfl) rfl rfl ⟨(Ax a.o 0).trans rfl,(Ax a.o 1).trans rfl,(Ax a.o 2).trans rfl,(Ax a.o 3).trans rfl,(Ax a.o 4).trans rfl,(Ax a.o 5).trans rfl⟩ (λD=>?_)
   generalize wc.drew=fg at z u c d a b HB D⊢
   refine It (i:=1) (N:=some 19) (v:=?_) (a':=?_) #[false,true,false,false,false] rfl rfl (by kernel_rfl) (λ_ _ _ h=>h) (Or.inl ⟨by rfl,?_⟩) ?_ ?_
   rotate_left
   ·intro w'
    go_simp
    with_reducible rfl
   rotate_left
   ·simp only[Act.put,List.setIfInBounds_toArray,List.set_cons_zero,List.set_cons_succ,BJ,BP]
    rfl
   refine Es (i:=0) (N:=some 18) (v:=?_) (a':=?_) #[true,true,false,false,false] rfl rfl (by kernel_rfl) (λ_ _ _ h=>h) (Or.inl ⟨by rfl,?_⟩) D ?_ ?_
   rotate_left
   ·rintro w' ⟨s0,s1,s2,s3,s4,s5⟩
    go_simp
    with_reducible rfl
   rotate_left
   ·simp only[Act.put,List.setIfInBounds_toArray,List.set_cons_zero,List.set_cons_succ,BJ,BP]
    rfl
   refine J_ (i:=2) (N:=some 20) #[true,true,true,false,false] rfl rfl (by kernel_rfl) (by decide) (λK hK=>?_)
   refine C7 Tryd.func23 (by kernel_rfl) rfl #[.pointer (some ⟨Y,0,none⟩)] (by rfl) rfl rfl (by(try simp only[List.map_toArray,List.map_cons,List.map_nil]);first|done|rfl|(simp only[List.length_drop,List.length_take];rfl)) ?_
   with_reducible refine(AX.calls aZ Y W P aP aQ aR aS aT dG w _ ?q' ?z' dL.o).mono ?_
   (case q'=>repeat(first|(with_reducible first|exact b.o|apply Ad.alloc|apply Ad.drewN|apply Ad.drew|apply Ad.EC|refine Ad.ER ?_ x.o _|refine Ad.ER ?_ y.o _|refine Ad.ER ?_ B.o _)|exact b.o))
   (case z'=>repeat(first|(with_reducible first|exact HB.o|apply FT|apply Au|apply Ay|refine DK ?_ (Ad.ge b.o)|refine DK ?_ X.o|refine DK ?_ Z.o|refine DK ?_ aj.o)|exact HB.o))
   rintro e aK ⟨rfl,hi,hb,hk⟩
   refine⟨_,rfl,?_⟩
   have n0_:=a_ (Kd.Ai (Kd.Br (Ad.apart (show Ad w _ Y W P from by repeat(first|(with_reducible first|exact b.o|apply Ad.alloc|apply Ad.drewN|apply Ad.drew|apply Ad.EC|refine Ad.ER ?_ x.o _|refine Ad.ER ?_ y.o _|refine Ad.ER ?_ B.o _)|exact b.o)) (by refine AV ?_;exact z.o) (by decide)) hk (λ_ h=>h.2)) (λ_ h=>h.1))
   have av:=a_ (Kd.Ai (Kd.Br (Ad.apart (show Ad w _ Y W P from by repeat(first|(with_reducible first|exact b.o|apply Ad.alloc|apply Ad.drewN|apply Ad.drew|apply Ad.EC|refine Ad.ER ?_ x.o _|refine Ad.ER ?_ y.o _|refine Ad.ER ?_ B.o _)|exact b.o)) (by refine AV ?_;exact u.o) (by decide)) hk (λ_ h=>h.2)) (λ_ h=>h.1))
   have aw:=a_ (Ah.Ex hk (g':=l) (o:=.cells #[.int .i64 0,.int .i64 0,.slice none 0 0,.slice none 0 0,.int .i64 0,.int .i64 0] 26 (0,0)) (Bc c.o) ak.o (by simp))
   have ax:=a_ (Ah.Ex hk (g':=r) (o:=.cells #[.int .i64 0,.int .i64 0,.int .i64 0,.int .i64 0,.string (⟨#[]⟩:ByteArray)] 30 (0,0)) (Bc d.o) al.o (by simp))
   have ay:=a_ (Ah.Ex hk (g':=A) (o:=.cells #[.int .i64 M,.int .i64 T,.slice aa I.length ab,.slice ae J.length af,.int .i64 U,.int .i64 O] 26 (0,0)) (Bc a.o) ai.o (by simp))
   have az:=a_ (hb)
   have aA:=a_ (hi)
   clear z
   clear u
   clear c
   clear d
   clear a
   clear HB
   clear b
   have z:=n0_
   have u:=av
   have c:=aw
   have d:=ax
   have a:=ay
   have HB:=az
   have b:=aA
   clear n0_ av aw ax ay az aA
   (try clear hb)
   (try clear au)
   (try clear hk)
   (try clear hi)
   refine hK.out _ _ ⟨(Ax a.o 0).trans rfl,(Ax a.o 1).trans rfl,(Ax a.o 2).trans rfl,(Ax a.o 3).trans rfl,(Ax a.o 4).trans rfl,(Ax a.o 5).trans rfl⟩ (λD=>?_)
   clear hK K
   refine FI (a':=?_) ?_ ?_
   rotate_left
   ·show Act.put _ (some 20) _=_
    simp only[Act.put,List.setIfInBounds_toArray,List.set_cons_zero,List.set_cons_succ,BJ,BP]
    rfl
   refine J_ (i:=3) (N:=none) #[true,true,true,true,false] rfl rfl (by kernel_rfl) (by decide) (λK hK=>?_)
   have eK:aK.cell? ⟨l,0,none⟩=some (.int .i64 0):=(Ax c.o 0).trans rfl
   have dW:=BU c.o 0
   have cJ:=p.o
   have cK:=j.o
   have bQ:=m.o
   have bR:=G.o
   have eL:aK.cell? ⟨l,1,none⟩=some (.int .i64 0):=(Ax c.o 1).trans rfl
   have dX:=BU c.o 1
   have cL:=p.o
   have cM:=j.o
   have bS:=m.o
   have bT:=G.o
   have eM:aK.cell? ⟨l,2,none⟩=some (.slice none 0 0):=(Ax c.o 2).trans rfl
   have dY:=BU c.o 2
   have cN:=p.o
   have cO:=j.o
   have bU:=m.o
   have bV:=G.o
   have eN:aK.cell? ⟨l,3,none⟩=some (.slice none 0 0):=(Ax c.o 3).trans rfl
   have dZ:=BU c.o 3
   have cP:=p.o
   have cQ:=j.o
   have bW:=m.o
   have bX:=G.o
   have eO:aK.cell? ⟨l,4,none⟩=some (.int .i64 0):=(Ax c.o 4).trans rfl
   have d_:=BU c.o 4
   have cR:=p.o
   have cS:=j.o
   have bY:=m.o
   have bZ:=G.o
   have eP:aK.cell? ⟨l,5,none⟩=some (.int .i64 0):=(Ax c.o 5).trans rfl
   have ea:=BU c.o 5
   have cT:=p.o
   have cU:=j.o
   have b6:=m.o
   have b7:=G.o
   refine EL (w1:=?_) (by rfl) rfl ?_ ?_
   rotate_left
   ·go_simp
    rfl
   refine hK.out _ _ ⟨(FG (g:=l) j.o (D.1)),(FG (g:=l) j.o (D.2.1)),(FG (g:=l) j.o (D.2.2.1)),(FG (g:=l) j.o (D.2.2.2.1)),(FG (g:=l) j.o (D.2.2.2.2.1)),(FG (g:=l) j.o (D.2.2.2.2.2))⟩ (λD=>?_)
   clear hK K
   refine J_ (i:=4) (N:=none) #[true,true,true,true,true] rfl rfl (by kernel_rfl) (by decide) (λK hK=>?_)
   have eQ:aK.cell? ⟨r,0,none⟩=some (.int .i64 0):=(Ax d.o 0).trans rfl
   have ec:=BU d.o 0
   have cV:=m.o
   have cW:=q.o
   have b8:=p.o
   have b9:=L.o
   have eR:aK.cell? ⟨r,1,none⟩=some (.int .i64 0):=(Ax d.o 1).trans rfl
   have ed:=BU d.o 1
   have cX:=m.o
   have cY:=q.o
   have b_:=p.o
   have ca:=L.o
   have eS:aK.cell? ⟨r,2,none⟩=some (.int .i64 0):=(Ax d.o 2).trans rfl
   have ee:=BU d.o 2
   have cZ:=m.o
   have c_:=q.o
   have cb:=p.o
   have cd:=L.o
   have eT:aK.cell? ⟨r,3,none⟩=some (.int .i64 0):=(Ax d.o 3).trans rfl
   have ef:=BU d.o 3
   have da:=m.o
   have db:=q.o
   have cf:=p.o
   have cg:=L.o
   have eU:aK.cell? ⟨r,4,none⟩=some (.string (⟨#[]⟩:ByteArray)):=(Ax d.o 4).trans rfl
   have eg:=BU d.o 4
   have dc:=m.o
   have dd:=q.o
   have cj:=p.o
   have ck:=L.o
   refine EL (w1:=?_) (by rfl) rfl ?_ ?_
   rotate_left
   ·go_simp
    rfl
   refine hK.out _ _ ⟨(Iz (g:=r) q.o (D.1)),(Iz (g:=r) q.o (D.2.1)),(Iz (g:=r) q.o (D.2.2.1)),(Iz (g:=r) q.o (D.2.2.2.1)),(Iz (g:=r) q.o (D.2.2.2.2.1)),(Iz (g:=r) q.o (D.2.2.2.2.2))⟩ (λD=>?_)
   clear hK K
   refine CV (by kernel_rfl) ?_
   try go_wp2
   refine RH (I5 rfl _ _ l r 26 30 #[.int .i64 M,.int .i64 T,.slice aa I.length ab,.slice ae J.length af,.int .i64 U,.int .i64 O] #[.int .i64 aP,.int .i64 aQ,.int .i64 aR,.int .i64 aS,.string aT] (0,0) (0,0) _ _ rfl (Hu m.o c.o) RP rfl (by kernel_rfl) rfl (Hs p.o d.o) RW rfl (by kernel_rfl)) rfl ?_
   exact⟨_,_,by first|rfl|(simp[Cp,Cq] <;> rfl)|(simp[*,Cp,Cq] <;> rfl),by refine AV ?_;exact Kd.Ai (FL (g:=r) (Dw (g:=l) (Kd.Aj (Kd.Aj z.o c.o (by decide)) d.o (by decide)) (λ_ hk=>hk.1.2) (.int .i64 M) (.int .i64 T) (.slice aa I.length ab) (.slice ae J.length af) (.int .i64 U) (.int .i64 O)) (λ_ hk=>hk.2) (.int .i64 aP) (.int .i64 aQ) (.int .i64 aR) (.int .i64 aS) (.string aT)) (λ_ hk=>trivial),by refine AV ?_;exact Kd.Ai (FL (g:=r) (Dw (g:=l) (Kd.Aj (Kd.Aj u.o c.o (by decide)) d.o (by decide)) (λ_ hk=>hk.1.2) (.int .i64 M) (.int .i64 T) (.slice aa I.length ab) (.slice ae J.length af) (.int .i64 U) (.int .i64 O)) (λ_ hk=>hk.2) (.int .i64 aP) (.int .i64 aQ) (.int .i64 aR) (.int .i64 aS) (.string aT)) (λ_ hk=>trivial),by repeat(first|(with_reducible first|exact HB.o|apply FT|apply Au|apply Ay|refine DK ?_ (Ad.ge b.o)|refine DK ?_ X.o|refine DK ?_ Z.o|refine DK ?_ aj.o)|exact HB.o)⟩
  ·replace a5:=RE.mpr a5
   subst a5
   have H1:((BS.f aZ I J).bind λaM=>((Aw.f aZ W P aM M O).bind λao=>(some (M,T,I,J,U,O,ao.1,ao.2.1,ao.2.2.1,ao.2.2.2.1,ao.2.2.2.2.1))))=some (r1,r2,r3,r4,r5,r6,r7,r8,r9,aD,aE):=by rw[Rz (show¬ (false=true) by decide)]at H;exact H
   clear H
   have H:=H1
   clear H1
   replace H:=BR H
   obtain⟨aM,a9,H⟩:=H
   replace H:((Aw.f aZ W P aM M O).bind λao=>(some (M,T,I,J,U,O,ao.1,ao.2.1,ao.2.2.1,ao.2.2.2.1,ao.2.2.2.2.1)))=some (r1,r2,r3,r4,r5,r6,r7,r8,r9,aD,aE):=H
   have dM:=a_ a9
   clear a9
   replace H:=BR H
   obtain⟨⟨aU,aV,aW,aX,aY,dH⟩,ba,H⟩:=H
   replace H:(some (M,T,I,J,U,O,aU,aV,aW,aX,aY))=some (r1,r2,r3,r4,r5,r6,r7,r8,r9,aD,aE):=H
   have dN:=a_ ba
   clear ba
   simp only[Option.some.injEq,Prod.mk.injEq]at H
   obtain⟨rfl,rfl,rfl,rfl,rfl,rfl,rfl,rfl,rfl,rfl,rfl⟩:=H
   try go_wp2
   have n0_:=a_ (Kd.D_ z.o)
   have av:=a_ (Kd.D_ u.o)
   have aw:=a_ (Du c.o)
   have ax:=a_ (Du d.o)
   have ay:=a_ (Du a.o)
   have az:=a_ (Ad.drew b.o)
   have aA:=a_ (Ay HB.o)
   clear z
   clear u
   clear c
   clear d
   clear a
   clear b
   clear HB
   have z:=n0_
   have u:=av
   have c:=aw
   have d:=ax
   have a:=ay
   have b:=az
   have HB:=aA
   clear n0_ av aw ax ay az aA
   refine Cl (n:=14) (S:=λw'=>w'.cell? ⟨A,0,none⟩=some (.int .i64 M)∧w'.cell? ⟨A,1,none⟩=some (.int .i64 T)∧w'.cell? ⟨A,2,none⟩=some (.slice aa I.length ab)∧w'.cell? ⟨A,3,none⟩=some (.slice ae J.length af)∧w'.cell? ⟨A,4,none⟩=some (.int .i64 U)∧w'.cell? ⟨A,5,none⟩=some (.int .i64 O)) (ds:=[]) #[false,false,false,false,false,false,false,false,false,false,false,false,false,false] (by kernel_rfl) rfl rfl ⟨(Ax a.o 0).trans rfl,(Ax a.o 1).trans rfl,(Ax a.o 2).trans rfl,(Ax a.o 3).trans rfl,(Ax a.o 4).trans rfl,(Ax a.o 5).trans rfl⟩ (λD=>?_);refine B1 AH.I8 AH.Gr (λHT_ HW_=>?_)
   generalize wc.drew=fh at z u c d a b HB D⊢
   refine It (i:=1) (N:=some 22) (v:=?_) (a':=?_) #[false,true,false,false,false,false,false,false,false,false,false,false,false,false] rfl rfl (GX HT_.o (by kernel_rfl)) (λ_ _ _ h=>h) (Or.inl ⟨by rfl,?_⟩) ?_ ?_
   rotate_left
   ·intro w'
    go_simp
    with_reducible rfl
   rotate_left
   ·simp only[Act.put,List.setIfInBounds_toArray,List.set_cons_zero,List.set_cons_succ,BJ,BP]
    rfl
   refine It (i:=2) (N:=some 23) (v:=?_) (a':=?_) #[false,true,true,false,false,false,false,false,false,false,false,false,false,false] rfl rfl (GX HT_.o (by kernel_rfl)) (λ_ _ _ h=>h) (Or.inl ⟨by rfl,?_⟩) ?_ ?_
   rotate_left
   ·intro w'
    go_simp
    with_reducible rfl
   rotate_left
   ·simp only[Act.put,List.setIfInBounds_toArray,List.set_cons_zero,List.set_cons_succ,BJ,BP]
    rfl
   refine It (i:=4) (N:=some 25) (v:=?_) (a':=?_) #[false,true,true,false,true,false,false,false,false,false,false,false,false,false] rfl rfl (GX HT_.o (by kernel_rfl)) (λ_ _ _ h=>h) (Or.inl ⟨by rfl,?_⟩) ?_ ?_
   rotate_left
   ·intro w'
    go_simp
    with_reducible rfl
   rotate_left
   ·simp only[Act.put,List.setIfInBounds_toArray,List.set_cons_zero,List.set_cons_succ,BJ,BP]
    rfl
   refine It (i:=7) (N:=some 28) (v:=?_) (a':=?_) #[false,true,true,false,true,false,false,true,false,false,false,false,false,false] rfl rfl (GX HT_.o (by kernel_rfl)) (λ_ _ _ h=>h) (Or.inl ⟨by rfl,?_⟩) ?_ ?_
   rotate_left
   ·intro w'
    go_simp
    with_reducible rfl
   rotate_left
   ·simp only[Act.put,List.setIfInBounds_toArray,List.set_cons_zero,List.set_cons_succ,BJ,BP]
    rfl
   refine It (i:=9) (N:=some 30) (v:=?_) (a':=?_) #[false,true,true,false,true,false,false,true,false,true,false,false,false,false] rfl rfl (GX HT_.o (by kernel_rfl)) (λ_ _ _ h=>h) (Or.inl ⟨by rfl,?_⟩) ?_ ?_
   rotate_left
   ·intro w'
    go_simp
    with_reducible rfl
   rotate_left
   ·simp only[Act.put,List.setIfInBounds_toArray,List.set_cons_zero,List.set_cons_succ,BJ,BP]
    rfl
   refine Es (i:=0) (N:=some 21) (v:=?_) (a':=?_) #[true,true,true,false,true,false,false,true,false,true,false,false,false,false] rfl rfl (C2 HT_.o HW_.o (by kernel_rfl)) (λ_ _ _ h=>h) (Or.inl ⟨by rfl,?_⟩) D ?_ ?_
   rotate_left
   ·rintro w' ⟨s0,s1,s2,s3,s4,s5⟩
    go_simp
    with_reducible rfl
   rotate_left
   ·simp only[Act.put,List.setIfInBounds_toArray,List.set_cons_zero,List.set_cons_succ,BJ,BP]
    rfl
   refine Es (i:=3) (N:=some 24) (v:=?_) (a':=?_) #[true,true,true,true,true,false,false,true,false,true,false,false,false,false] rfl rfl (C2 HT_.o HW_.o (by kernel_rfl)) (λ_ _ _ h=>h) (Or.inl ⟨by rfl,?_⟩) D ?_ ?_
   rotate_left
   ·rintro w' ⟨s0,s1,s2,s3,s4,s5⟩
    go_simp
    with_reducible rfl
   rotate_left
   ·simp only[Act.put,List.setIfInBounds_toArray,List.set_cons_zero,List.set_cons_succ,BJ,BP]
    rfl
   refine Es (i:=5) (N:=some 26) (v:=?_) (a':=?_) #[true,true,true,true,true,true,false,true,false,true,false,false,false,false] rfl rfl (C2 HT_.o HW_.o (by kernel_rfl)) (λ_ _ _ h=>h) (Or.inl ⟨by rfl,?_⟩) D ?_ ?_
   rotate_left
   ·rintro w' ⟨s0,s1,s2,s3,s4,s5⟩
    go_simp
    with_reducible rfl
   rotate_left
   ·simp only[Act.put,List.setIfInBounds_toArray,List.set_cons_zero,List.set_cons_succ,BJ,BP]
    rfl
   refine Es (i:=8) (N:=some 29) (v:=?_) (a':=?_) #[true,true,true,true,true,true,false,true,true,true,false,false,false,false] rfl rfl (C2 HT_.o HW_.o (by kernel_rfl)) (λ_ _ _ h=>h) (Or.inl ⟨by rfl,?_⟩) D ?_ ?_
   rotate_left
   ·rintro w' ⟨s0,s1,s2,s3,s4,s5⟩
    go_simp
    with_reducible rfl
   rotate_left
   ·simp only[Act.put,List.setIfInBounds_toArray,List.set_cons_zero,List.set_cons_succ,BJ,BP]
    rfl
   refine Es (i:=10) (N:=some 31) (v:=?_) (a':=?_) #[true,true,true,true,true,true,false,true,true,true,true,false,false,false] rfl rfl (C2 HT_.o HW_.o (by kernel_rfl)) (λ_ _ _ h=>h) (Or.inl ⟨by rfl,?_⟩) D ?_ ?_
   rotate_left
   ·rintro w' ⟨s0,s1,s2,s3,s4,s5⟩
    go_simp
    with_reducible rfl
   rotate_left
   ·simp only[Act.put,List.setIfInBounds_toArray,List.set_cons_zero,List.set_cons_succ,BJ,BP]
    rfl
   refine J_ (i:=6) (N:=some 27) #[true,true,true,true,true,true,true,true,true,true,true,false,false,false] rfl rfl (Gc HT_.o (by kernel_rfl)) (by decide) (λK hK=>?_)
   refine C7 Tryd.func25 (by kernel_rfl) rfl #[.slice aa I.length ab,.slice ae J.length af] (by rfl) rfl rfl (by(try simp only[List.map_toArray,List.map_cons,List.map_nil]);first|done|rfl|(simp only[List.length_drop,List.length_take];rfl)) ?_
   with_reducible refine(BS.calls aZ (λk_=>some k_=(.slice aa I.length ab:Value).ownBlock) _ _ I _ _ J aM _ ?q' ?z' ?y' dM.o).mono ?_
   (case q'=>exact Kd.MH (Kd.E_ rfl (Ad.apart b.o (Kd.Aj (Kd.Aj (Kd.Aj (Kd.BE (z.o) (Kd.Ca u.o) (by decide)) c.o (by decide)) d.o (by decide)) a.o (by decide)) (by decide))))
   (case z'=>repeat(first|exact(Kd.At u.o).2.2|(with_reducible refine Kd.C_alloc ?_ _)|(with_reducible refine Kd.B_ ?_ _)|(with_reducible refine Kd.C_drew ?_)))
   (case y'=>exact(Kd.At u.o).2.1)
   rintro e fi ⟨e_,rfl,a0,hb⟩
   refine⟨_,rfl,?_⟩
   have n0_:=a_ (Kd.Dq (by refine AV ?_;exact z.o) (Kd.Ch a0) hb)
   have av:=a_ (Kd.AJ (by refine AV ?_;exact u.o) hb)
   have aw:=a_ (Kd.AU (Kd.Et (Kd.Ai (Fi:=λk_=>True) a0 (λ_ fb=>trivial)) (Kd.EH (by refine AV ?_;exact z.o))) (Af (by repeat(first|(with_reducible first|exact HB.o|apply FT|apply Au|apply Ay|refine DK ?_ (Ad.ge b.o)|refine DK ?_ X.o|refine DK ?_ Z.o|refine DK ?_ aj.o)|exact HB.o))))
   have ax:=a_ (Ao (g:=l) (o:=.cells #[.int .i64 0,.int .i64 0,.slice none 0 0,.slice none 0 0,.int .i64 0,.int .i64 0] 26 (0,0)) (Bc c.o) hb)
   have ay:=a_ (Ao (g:=r) (o:=.cells #[.int .i64 0,.int .i64 0,.int .i64 0,.int .i64 0,.string (⟨#[]⟩:ByteArray)] 30 (0,0)) (Bc d.o) hb)
   have az:=a_ (Ao (g:=A) (o:=.cells #[.int .i64 M,.int .i64 T,.slice aa I.length ab,.slice ae J.length af,.int .i64 U,.int .i64 O] 26 (0,0)) (Bc a.o) hb)
   have aA:=a_ (Ad.below (by repeat(first|(with_reducible first|exact b.o|apply Ad.alloc|apply Ad.drewN|apply Ad.drew|apply Ad.EC|refine Ad.ER ?_ x.o _|refine Ad.ER ?_ y.o _|refine Ad.ER ?_ B.o _)|exact b.o)) hb)
   have a3:=a_ (IY (by repeat(first|(with_reducible first|exact HB.o|apply FT|apply Au|apply Ay|refine DK ?_ (Ad.ge b.o)|refine DK ?_ X.o|refine DK ?_ Z.o|refine DK ?_ aj.o)|exact HB.o)) hb)
   clear z
   clear u
   clear c
   clear d
   clear a
   clear b
   clear HB
   have z:=n0_
   have u:=av
   have aB:=aw
   have c:=ax
   have d:=ay
   have a:=az
   have b:=aA
   have HB:=a3
   clear n0_ av aw ax ay az aA a3
   (try clear hb)
   (try clear au)
   (try clear hk)
   (try clear hi)
   (try clear a0)
   obtain⟨bJ,bK,bb⟩:=Kd.Be aB.o
   (first|subst bb|(injection bb with bN dT bO;have dU:=bN.symm;have dV:=bO.symm;clear bN dT bO;subst dU;subst dV))
   refine hK.out _ _ ⟨(Ax a.o 0).trans rfl,(Ax a.o 1).trans rfl,(Ax a.o 2).trans rfl,(Ax a.o 3).trans rfl,(Ax a.o 4).trans rfl,(Ax a.o 5).trans rfl⟩ (λD=>?_)
   clear hK K
   refine FI (a':=?_) ?_ ?_
   rotate_left
   ·show Act.put _ (some 27) _=_
    simp only[Act.put,List.setIfInBounds_toArray,List.set_cons_zero,List.set_cons_succ,BJ,BP]
    rfl
   refine J_ (i:=11) (N:=some 32) #[true,true,true,true,true,true,true,true,true,true,true,true,false,false] rfl rfl (Gc HT_.o (by kernel_rfl)) (by decide) (λK hK=>?_)
   refine C7 Tryd.func24 (by kernel_rfl) rfl #[.pointer (some ⟨Y,0,none⟩),.slice bJ aM.length bK,.int .i64 M,.int .i64 O] (by rfl) rfl rfl (by(try simp only[List.map_toArray,List.map_cons,List.map_nil]);first|done|rfl|(simp only[List.length_drop,List.length_take];rfl)) ?_
   with_reducible refine(Aw.calls aZ Y W P _ _ aM M O aU aV aW aX aY dH w _ ?q' ?z' ?y' ?v' dN.o).mono ?_
   (case q'=>repeat(first|(with_reducible first|exact b.o|apply Ad.alloc|apply Ad.drewN|apply Ad.drew|apply Ad.EC|refine Ad.ER ?_ x.o _|refine Ad.ER ?_ y.o _|refine Ad.ER ?_ B.o _)|exact b.o))
   (case z'=>repeat(first|(with_reducible first|exact HB.o|apply FT|apply Au|apply Ay|refine DK ?_ (Ad.ge b.o)|refine DK ?_ X.o|refine DK ?_ Z.o|refine DK ?_ aj.o)|exact HB.o))
   (case y'=>exact Kd.GS (Ad.apart (show Ad w _ Y W P from by repeat(first|(with_reducible first|exact b.o|apply Ad.alloc|apply Ad.drewN|apply Ad.drew|apply Ad.EC|refine Ad.ER ?_ x.o _|refine Ad.ER ?_ y.o _|refine Ad.ER ?_ B.o _)|exact b.o)) (by refine AV ?_;exact aB.o) (by decide)) (λ_ h_=>h_.2))
   (case v'=>exact(Kd.At aB.o).2.1)
   rintro e aL ⟨rfl,hi,hb,hk⟩
   refine⟨_,rfl,?_⟩
   have n0_:=a_ (Kd.Ai (Kd.Br (Ad.apart (show Ad w _ Y W P from by repeat(first|(with_reducible first|exact b.o|apply Ad.alloc|apply Ad.drewN|apply Ad.drew|apply Ad.EC|refine Ad.ER ?_ x.o _|refine Ad.ER ?_ y.o _|refine Ad.ER ?_ B.o _)|exact b.o)) (by refine AV ?_;exact z.o) (by decide)) hk (λ_ h=>h.2)) (λ_ h=>h.1))
   have av:=a_ (Kd.Ai (Kd.Br (Ad.apart (show Ad w _ Y W P from by repeat(first|(with_reducible first|exact b.o|apply Ad.alloc|apply Ad.drewN|apply Ad.drew|apply Ad.EC|refine Ad.ER ?_ x.o _|refine Ad.ER ?_ y.o _|refine Ad.ER ?_ B.o _)|exact b.o)) (by refine AV ?_;exact u.o) (by decide)) hk (λ_ h=>h.2)) (λ_ h=>h.1))
   have aw:=a_ (Ah.Ex hk (g':=l) (o:=.cells #[.int .i64 0,.int .i64 0,.slice none 0 0,.slice none 0 0,.int .i64 0,.int .i64 0] 26 (0,0)) (Bc c.o) ak.o (by simp))
   have ax:=a_ (Ah.Ex hk (g':=r) (o:=.cells #[.int .i64 0,.int .i64 0,.int .i64 0,.int .i64 0,.string (⟨#[]⟩:ByteArray)] 30 (0,0)) (Bc d.o) al.o (by simp))
   have ay:=a_ (Ah.Ex hk (g':=A) (o:=.cells #[.int .i64 M,.int .i64 T,.slice aa I.length ab,.slice ae J.length af,.int .i64 U,.int .i64 O] 26 (0,0)) (Bc a.o) ai.o (by simp))
   have az:=a_ (Kd.Ai (Kd.Br (Ad.apart (show Ad w _ Y W P from by repeat(first|(with_reducible first|exact b.o|apply Ad.alloc|apply Ad.drewN|apply Ad.drew|apply Ad.EC|refine Ad.ER ?_ x.o _|refine Ad.ER ?_ y.o _|refine Ad.ER ?_ B.o _)|exact b.o)) (by refine AV ?_;exact aB.o) (by decide)) hk (λ_ h=>h.2)) (λ_ h=>h.1))
   have aA:=a_ (hb)
   have a3:=a_ (hi)
   clear z
   clear u
   clear c
   clear d
   clear a
   clear aB
   clear HB
   clear b
   have z:=n0_
   have u:=av
   have c:=aw
   have d:=ax
   have a:=ay
   have aB:=az
   have HB:=aA
   have b:=a3
   clear n0_ av aw ax ay az aA a3
   (try clear hb)
   (try clear au)
   (try clear hk)
   (try clear hi)
   refine hK.out _ _ ⟨(Ax a.o 0).trans rfl,(Ax a.o 1).trans rfl,(Ax a.o 2).trans rfl,(Ax a.o 3).trans rfl,(Ax a.o 4).trans rfl,(Ax a.o 5).trans rfl⟩ (λD=>?_)
   clear hK K
   refine FI (a':=?_) ?_ ?_
   rotate_left
   ·show Act.put _ (some 32) _=_
    simp only[Act.put,List.setIfInBounds_toArray,List.set_cons_zero,List.set_cons_succ,BJ,BP]
    rfl
   refine J_ (i:=12) (N:=none) #[true,true,true,true,true,true,true,true,true,true,true,true,true,false] rfl rfl (Gc HT_.o (by kernel_rfl)) (by decide) (λK hK=>?_)
   have eV:aL.cell? ⟨l,0,none⟩=some (.int .i64 0):=(Ax c.o 0).trans rfl
   have eh:=BU c.o 0
   have de:=p.o
   have df:=j.o
   have cl:=m.o
   have cm:=G.o
   have eW:aL.cell? ⟨l,1,none⟩=some (.int .i64 0):=(Ax c.o 1).trans rfl
   have ei:=BU c.o 1
   have dg:=p.o
   have dh:=j.o
   have cn:=m.o
   have cp:=G.o
   have eX:aL.cell? ⟨l,2,none⟩=some (.slice none 0 0):=(Ax c.o 2).trans rfl
   have ej:=BU c.o 2
   have di:=p.o
   have dj:=j.o
   have cq:=m.o
   have cr:=G.o
   have eY:aL.cell? ⟨l,3,none⟩=some (.slice none 0 0):=(Ax c.o 3).trans rfl
   have ek:=BU c.o 3
   have dk:=p.o
   have dm:=j.o
   have ct:=m.o
   have cu:=G.o
   have eZ:aL.cell? ⟨l,4,none⟩=some (.int .i64 0):=(Ax c.o 4).trans rfl
   have en:=BU c.o 4
   have dn:=p.o
   have dp:=j.o
   have cv:=m.o
   have cw:=G.o
   have e0:aL.cell? ⟨l,5,none⟩=some (.int .i64 0):=(Ax c.o 5).trans rfl
   have eo:=BU c.o 5
   have dq:=p.o
   have dr:=j.o
   have cx:=m.o
   have cy:=G.o
   refine EL (w1:=?_) (by rfl) rfl ?_ ?_
   rotate_left
   ·go_simp
    rfl
   refine hK.out _ _ ⟨(FG (g:=l) j.o (D.1)),(FG (g:=l) j.o (D.2.1)),(FG (g:=l) j.o (D.2.2.1)),(FG (g:=l) j.o (D.2.2.2.1)),(FG (g:=l) j.o (D.2.2.2.2.1)),(FG (g:=l) j.o (D.2.2.2.2.2))⟩ (λD=>?_)
   clear hK K
   refine J_ (i:=13) (N:=none) #[true,true,true,true,true,true,true,true,true,true,true,true,true,true] rfl rfl (Gc HT_.o (by kernel_rfl)) (by decide) (λK hK=>?_)
   have e1:aL.cell? ⟨r,0,none⟩=some (.int .i64 0):=(Ax d.o 0).trans rfl
   have ep:=BU d.o 0
   have du:=m.o
   have dv:=q.o
   have cz:=p.o
   have cA:=L.o
   have e2:aL.cell? ⟨r,1,none⟩=some (.int .i64 0):=(Ax d.o 1).trans rfl
   have er:=BU d.o 1
   have dw:=m.o
   have dx:=q.o
   have cB:=p.o
   have cC:=L.o
   have e3:aL.cell? ⟨r,2,none⟩=some (.int .i64 0):=(Ax d.o 2).trans rfl
   have et:=BU d.o 2
   have dy:=m.o
   have dz:=q.o
   have cD:=p.o
   have cE:=L.o
   have e4:aL.cell? ⟨r,3,none⟩=some (.int .i64 0):=(Ax d.o 3).trans rfl
   have eu:=BU d.o 3
   have dA:=m.o
   have dB:=q.o
   have cF:=p.o
   have cG:=L.o
   have e5:aL.cell? ⟨r,4,none⟩=some (.string (⟨#[]⟩:ByteArray)):=(Ax d.o 4).trans rfl
   have ev:=BU d.o 4
   have dC:=m.o
   have dD:=q.o
   have cH:=p.o
   have cI:=L.o
   refine EL (w1:=?_) (by rfl) rfl ?_ ?_
   rotate_left
   ·go_simp
    rfl
   refine hK.out _ _ ⟨(Iz (g:=r) q.o (D.1)),(Iz (g:=r) q.o (D.2.1)),(Iz (g:=r) q.o (D.2.2.1)),(Iz (g:=r) q.o (D.2.2.2.1)),(Iz (g:=r) q.o (D.2.2.2.2.1)),(Iz (g:=r) q.o (D.2.2.2.2.2))⟩ (λD=>?_)
   clear hK K
   refine CV (CT HT_.o (by kernel_rfl)) ?_
   try go_wp2
   refine RH (I5 rfl _ _ l r 26 30 #[.int .i64 M,.int .i64 T,.slice aa I.length ab,.slice ae J.length af,.int .i64 U,.int .i64 O] #[.int .i64 aU,.int .i64 aV,.int .i64 aW,.int .i64 aX,.string aY] (0,0) (0,0) _ _ rfl (Hu m.o c.o) RP rfl (by kernel_rfl) rfl (Hs p.o d.o) RW rfl (by kernel_rfl)) rfl ?_
   exact⟨_,_,by first|rfl|(simp[Cp,Cq] <;> rfl)|(simp[*,Cp,Cq] <;> rfl),by refine AV ?_;exact Kd.Ai (FL (g:=r) (Dw (g:=l) (Kd.Aj (Kd.Aj z.o c.o (by decide)) d.o (by decide)) (λ_ hk=>hk.1.2) (.int .i64 M) (.int .i64 T) (.slice aa I.length ab) (.slice ae J.length af) (.int .i64 U) (.int .i64 O)) (λ_ hk=>hk.2) (.int .i64 aU) (.int .i64 aV) (.int .i64 aW) (.int .i64 aX) (.string aY)) (λ_ hk=>trivial),by refine AV ?_;exact Kd.Ai (FL (g:=r) (Dw (g:=l) (Kd.Aj (Kd.Aj u.o c.o (by decide)) d.o (by decide)) (λ_ hk=>hk.1.2) (.int .i64 M) (.int .i64 T) (.slice aa I.length ab) (.slice ae J.length af) (.int .i64 U) (.int .i64 O)) (λ_ hk=>hk.2) (.int .i64 aU) (.int .i64 aV) (.int .i64 aW) (.int .i64 aX) (.string aY)) (λ_ hk=>trivial),by repeat(first|(with_reducible first|exact HB.o|apply FT|apply Au|apply Ay|refine DK ?_ (Ad.ge b.o)|refine DK ?_ X.o|refine DK ?_ Z.o|refine DK ?_ aj.o)|exact HB.o)⟩
def Cc.f(a:Int):Option (Bool):=if a≥1 then(some (decide (a≤3)))else(some false)
theorem Cc.calls(a:Int)(r:Bool)(w:World)(h:Cc.f a=some r) :
  Calls Tryd.prog 17 #[.int .i64 a] w λe w'=>e=.returned (.bool r)∧As w w':=by
 unfold Cc.f at h;have H:=h;clear h;by_cases c2:a≥1
 ·rw[Ry c2]at H;have b:decide (1≤a)=true:=BM c2;clear c2;obtain rfl:=CW H;go_enter Tryd.func17,Tryd.ntmps17;go_wp2;go_ret;exact⟨CA,by repeat(first|exact As.refl _|apply As.step)⟩
 rw[Rz c2]at H;have b:decide (1≤a)=false:=C9 c2;clear c2;obtain rfl:=CW H;go_enter Tryd.func17,Tryd.ntmps17;go_wp2;go_ret;exact⟨CA,by repeat(first|exact As.refl _|apply As.step)⟩
def Ci.f(k:Nat)(c:Int)(d:Int)(i:List (Ba))(j:List (AQ))(e:Int)(g:Int)(l:Int)(m:Int)(n:Int)(o:Int)(p:ByteArray):Option (Int×Int×(List (Ba))×(List (AQ))×Int×Int×Bool):=(Ap.f k c d i j e g).bind λq=>(if q=true then((C6.f c d i j e g).bind λb=>((Bs.f k b.1 b.2.1 b.2.2.1 b.2.2.2.1 b.2.2.2.2.1 b.2.2.2.2.2 l m n o p).bind λa=>(some (a.1,a.2.1,a.2.2.1,a.2.2.2.1,a.2.2.2.2.1,a.2.2.2.2.2.1,a.2.2.2.2.2.2))))else(some (0,0,([]:List (Ba)),([]:List (AQ)),0,0,false)))
def Ci.T3:Bool×List (List Nat×List Nat):=(true,[([],[]),([0],[0]),([],[]),([1,2,1],[1,2]),([3],[3]),([3],[3]),([4,3,0,1,2,3,4,5],[4]),([5,6,0,1,2,3,4,5,6],[5])])
def Ci.B3:List Nat:=[0,1,0,7,15,15,63,127]
theorem Ci.Ra:EK .any (opsOf Tryd.f9 3)=Ci.T3:=by kernel_rfl
theorem Ci.Qv:DS Ci.T3.2 Ci.B3=true:=by kernel_rfl
theorem Ci.calls(k:Nat)(B:Int)(D:Int)(I:Option Addr)(L:Nat)(x:List (Ba))(J:Option Addr)(O:Nat)(y:List (AQ))(E:Int)(G:Int)(W:Int)(X:Int)(Y:Int)(Z:Int)(aa:ByteArray)(r1:Int)(r2:Int)(r3:List (Ba))(r4:List (AQ))(r5:Int)(r6:Int)(r7:Bool)(w:World)(aP:Kd.C Dd w I x.length x)(aL:x.length≤L)(aQ:Kd.C Ck w J y.length y)(aM:y.length≤O)(h:Ci.f k B D x y E G W X Y Z aa=some (r1,r2,r3,r4,r5,r6,r7)) :
  Calls Tryd.prog 9 #[.agg #[.int .i64 B,.int .i64 D,.slice I x.length L,.slice J y.length O,.int .i64 E,.int .i64 G],.agg #[.int .i64 W,.int .i64 X,.int .i64 Y,.int .i64 Z,.string aa]] w λe w'=>∃bH bI:Value,e=.returned (.tuple #[.agg #[.int .i64 r1,.int .i64 r2,bH,bI,.int .i64 r5,.int .i64 r6],.bool r7])∧Kd.V Dd 68 w' w.heap.size (λT=>(w.heap.size≤T)) bH r3∧Kd.V Ck 32 w' w.heap.size (λT=>(w.heap.size≤T)) bI r4∧Below w.heap.size w w':=by
 have cR:=RP;have cS:=RW;have ao:=a_ aP;have al:=a_ aL;clear aP aL;have aq:=a_ aQ;have an:=a_ aM;clear aQ aM;have HB:=a_ (RG w.heap.size w);unfold Ci.f at h;have H:=h;clear h;replace H:=BR H;obtain⟨bF,a9,H⟩:=H;try dsimp only at H
 have A3:=a_ a9;clear a9;by_cases c4:bF=true
 ·subst c4;have H1:((C6.f B D x y E G).bind λah=>((Bs.f k ah.1 ah.2.1 ah.2.2.1 ah.2.2.2.1 ah.2.2.2.2.1 ah.2.2.2.2.2 W X Y Z aa).bind λaf=>(some (af.1,af.2.1,af.2.2.1,af.2.2.2.1,af.2.2.2.2.1,af.2.2.2.2.2.1,af.2.2.2.2.2.2))))=some (r1,r2,r3,r4,r5,r6,r7):=by rw[Ry rfl]at H;exact H
  clear H;have H:=H1;clear H1;replace H:=BR H;obtain⟨⟨aR,aS,aw,ax,aT,aU⟩,ba,H⟩:=H;try dsimp only at H
  have A5:=a_ ba;clear ba;replace H:=BR H;obtain⟨⟨ay,az,aA,aB,aC,aD,bG⟩,bb,H⟩:=H;try dsimp only at H
  have A6:=a_ bb;clear bb;simp only[Option.some.injEq,Prod.mk.injEq]at H;obtain⟨rfl,rfl,rfl,rfl,rfl,rfl,rfl⟩:=H;go_enter Tryd.func9,Tryd.ntmps9;try go_wp2_with(first|((with_reducible refine BV (N:=2) rfl ?_);refine Cy 2 (#[.int .i64 B,.int .i64 D,.slice I x.length L,.slice J y.length O,.int .i64 E,.int .i64 G]) 26 ?_;intro m hg w7 P U;have a:=a_ (P);have a6:=BD w hg;have a3:=BD w hg;replace HB:=Bw U;clear U P hg)|((with_reducible refine BV (N:=3) rfl ?_);refine Cy 3 (#[.int .i64 W,.int .i64 X,.int .i64 Y,.int .i64 Z,.string aa]) 30 ?_;intro r hg w8 P U;have b:=a_ (P);have a7:=BD w hg;have a4:=BD w hg;have ab:=a_ ((by rw[hg];exact RN (Av (g:=m) (o:=.cells #[.int .i64 B,.int .i64 D,.slice I x.length L,.slice J y.length O,.int .i64 E,.int .i64 G] 26 (0,0)) (Bc a.o)):m≠r));have ae:=a_ ((by rw[hg];exact RM (Av (g:=m) (o:=.cells #[.int .i64 B,.int .i64 D,.slice I x.length L,.slice J y.length O,.int .i64 E,.int .i64 G] 26 (0,0)) (Bc a.o)):r≠m));replace a:=a_ (Cr a.o U);replace HB:=Bw U;clear U P hg)|((with_reducible refine BV (N:=4) rfl ?_);refine Cy 4 (#[.int .i64 0,.int .i64 0,.slice none 0 0,.slice none 0 0,.int .i64 0,.int .i64 0]) 26 ?_;intro d hg w9 P U;have c:=a_ (P);have a8:=BD w hg;have a5:=BD w hg;have j:=a_ ((by rw[hg];exact RN (Av (g:=m) (o:=.cells #[.int .i64 B,.int .i64 D,.slice I x.length L,.slice J y.length O,.int .i64 E,.int .i64 G] 26 (0,0)) (Bc a.o)):m≠d));have v:=a_ ((by rw[hg];exact RM (Av (g:=m) (o:=.cells #[.int .i64 B,.int .i64 D,.slice I x.length L,.slice J y.length O,.int .i64 E,.int .i64 G] 26 (0,0)) (Bc a.o)):d≠m));have l:=a_ ((by rw[hg];exact RN (Av (g:=r) (o:=.cells #[.int .i64 W,.int .i64 X,.int .i64 Y,.int .i64 Z,.string aa] 30 (0,0)) (Bc b.o)):r≠d));have z:=a_ ((by rw[hg];exact RM (Av (g:=r) (o:=.cells #[.int .i64 W,.int .i64 X,.int .i64 Y,.int .i64 Z,.string aa] 30 (0,0)) (Bc b.o)):d≠r));replace a:=a_ (Cr a.o U);replace b:=a_ (Cr b.o U);replace HB:=Bw U;clear U P hg;have cA:=ab.o;have cF:=ae.o;have cB:=j.o;have cG:=v.o;obtain⟨b7,b8,b9,b_,ca,cb,bJ,bK,bL,bM,bN,bO⟩:=BT a.o)|((with_reducible refine BQ (f:=7) rfl ?_);refine BW 7 Tryd.func7 #[.agg #[.int .i64 B,.int .i64 D,.slice I x.length L,.slice J y.length O,.int .i64 E,.int .i64 G]] ?_;(with_reducible refine(Ap.calls k B D _ _ x _ _ y E G true _ ?q' ?z' ?y' ?v' A3.o).mono ?_);(case q'=>exact F0 ao.o);(case z'=>exact al.o);(case y'=>exact E9 (Kd.Bu aq.o HB.o));(case v'=>exact an.o);rintro e cK ⟨rfl,U⟩;refine⟨_,rfl,?_⟩;replace HB:=Bw U;replace a:=a_ (Cr a.o U);replace b:=a_ (Cr b.o U);replace c:=a_ (Cr c.o U);(try clear U)))
  replace a:=a_ (Du a.o);replace b:=a_ (Du b.o);replace c:=a_ (Du c.o);replace HB:=a_ (Ay HB.o);refine Cl (n:=8) (S:=λw'=>w'.cell? ⟨m,0,none⟩=some (.int .i64 B)∧w'.cell? ⟨m,1,none⟩=some (.int .i64 D)∧w'.cell? ⟨m,2,none⟩=some (.slice I x.length L)∧w'.cell? ⟨m,3,none⟩=some (.slice J y.length O)∧w'.cell? ⟨m,4,none⟩=some (.int .i64 E)∧w'.cell? ⟨m,5,none⟩=some (.int .i64 G)∧w'.cell? ⟨r,0,none⟩=some (.int .i64 W)∧w'.cell? ⟨r,1,none⟩=some (.int .i64 X)∧w'.cell? ⟨r,2,none⟩=some (.int .i64 Y)∧w'.cell? ⟨r,3,none⟩=some (.int .i64 Z)∧w'.cell? ⟨r,4,none⟩=some (.string aa)) (ds:=[]) #[false,false,false,false,false,false,false,false] (by kernel_rfl) rfl rfl ⟨(Ax a.o 0).trans rfl,(Ax a.o 1).trans rfl,(Ax a.o 2).trans rfl,(Ax a.o 3).trans rfl,(Ax a.o 4).trans rfl,(Ax a.o 5).trans rfl,(Ax b.o 0).trans rfl,(Ax b.o 1).trans rfl,(Ax b.o 2).trans rfl,(Ax b.o 3).trans rfl,(Ax b.o 4).trans rfl⟩ (λA=>?_);refine B1 Ci.Ra Ci.Qv (λHT_ HW_=>?_);generalize cK.drew=cX at a b c HB A⊢;refine F5 0 10 A ?_;refine F5 2 12 A ?_;refine E7 1 11 (λK hK=>?_);refine C7 Tryd.func27 (by kernel_rfl) rfl #[.agg #[.int .i64 B,.int .i64 D,.slice I x.length L,.slice J y.length O,.int .i64 E,.int .i64 G]] (by rfl) rfl rfl JV ?_;with_reducible refine(C6.calls B D _ _ x _ _ y E G aR aS aw ax aT aU _ ?q' ?z' ?y' ?v' A5.o).mono ?_
  (case q'=>exact F0 ao.o);(case z'=>exact al.o);(case y'=>exact E9 (Kd.Bu aq.o HB.o));(case v'=>exact an.o);rintro e cY ⟨cT,cU,rfl,aN,aO,U⟩;refine⟨_,rfl,?_⟩;have t:=a_ (Kd.AU (Kd.FE (M:=λT=>(w.heap.size≤T)) aN (Af (Ag)) (λT h_=>h_)) (Af (Ag)));have u:=a_ (Kd.AU (Kd.FE (M:=λT=>(w.heap.size≤T)) aO (Af (Ag)) (λT h_=>h_)) (Af (Ag)));replace HB:=Bw U;replace a:=a_ (Cr a.o U);replace b:=a_ (Cr b.o U);replace c:=a_ (Cr c.o U);try clear U aN aO
  obtain⟨aV,aX,aZ⟩:=Kd.Be t.o;(first|subst aZ|(injection aZ with ai ar aj;have au:=ai.symm;have av:=aj.symm;clear ai ar aj;subst au;subst av));obtain⟨aW,aY,a0⟩:=Kd.Be u.o;(first|subst a0|(injection a0 with ai ar aj;have au:=ai.symm;have av:=aj.symm;clear ai ar aj;subst au;subst av));refine hK.out _ _ ⟨(Ax a.o 0).trans rfl,(Ax a.o 1).trans rfl,(Ax a.o 2).trans rfl,(Ax a.o 3).trans rfl,(Ax a.o 4).trans rfl,(Ax a.o 5).trans rfl,(Ax b.o 0).trans rfl,(Ax b.o 1).trans rfl,(Ax b.o 2).trans rfl,(Ax b.o 3).trans rfl,(Ax b.o 4).trans rfl⟩ (λA=>?_);clear hK K;refine Er 11 ?_;refine E7 3 13 (λK hK=>?_);refine C7 Tryd.func26 (by kernel_rfl) rfl #[.agg #[.int .i64 aR,.int .i64 aS,.slice aV aw.length aX,.slice aW ax.length aY,.int .i64 aT,.int .i64 aU],.agg #[.int .i64 W,.int .i64 X,.int .i64 Y,.int .i64 Z,.string aa]] (by rfl) rfl rfl JV ?_;with_reducible refine(Bs.calls k aR aS (λT=>some T=(.slice aV aw.length aX:Value).ownBlock) _ _ aw (λT=>some T=(.slice aW ax.length aY:Value).ownBlock) _ _ ax aT aU W X Y Z aa ay az aA aB aC aD bG _ ?q' ?z' A6.o).mono ?_
  (case q'=>exact Kd.MH (Kd.E_ rfl (Kd.Aj (Kd.Aj (Kd.Aj (Kd.BE (t.o) (Kd.Ca u.o) (by decide)) a.o (by decide)) b.o (by decide)) c.o (by decide))));(case z'=>exact Kd.MH (Kd.E_ rfl (Kd.Aj (Kd.Aj (Kd.Aj (Kd.BE (u.o) (Kd.Ca t.o) (by decide)) a.o (by decide)) b.o (by decide)) c.o (by decide))));rintro e aE ⟨cV,cW,rfl,aN,aO,U⟩;refine⟨_,rfl,?_⟩;have aH:=a_ (Kd.F8 (Kd.AD (Fi:=λT=>(w.heap.size≤T)∧T≠m∧T≠r∧T≠d) aN (λT ak=>⟨SH ak (λq=>SH q (λq=>((Kd.Aj (Kd.Aj (Kd.Aj (Kd.BE (t.o) (Kd.Ca u.o) (by decide)) a.o (by decide)) b.o (by decide)) c.o (by decide)).1 T q.symm).1.1.1.1.1) (λq=>((Kd.Aj (Kd.Aj (Kd.Aj (Kd.BE (u.o) (Kd.Ca t.o) (by decide)) a.o (by decide)) b.o (by decide)) c.o (by decide)).1 T q.symm).1.1.1.1.1)) (λag=>(RJ (Af (Ag)) ag)),SH ak (λq=>SH q (λq=>((Kd.Aj (Kd.Aj (Kd.Aj (Kd.BE (t.o) (Kd.Ca u.o) (by decide)) a.o (by decide)) b.o (by decide)) c.o (by decide)).1 T q.symm).1.1.2) (λq=>((Kd.Aj (Kd.Aj (Kd.Aj (Kd.BE (u.o) (Kd.Ca t.o) (by decide)) a.o (by decide)) b.o (by decide)) c.o (by decide)).1 T q.symm).1.1.2)) (λag=>(Kd.Dk (g:=m) (o:=.cells #[.int .i64 B,.int .i64 D,.slice I x.length L,.slice J y.length O,.int .i64 E,.int .i64 G] 26 (0,0)) (Bc a.o) T ag)),SH ak (λq=>SH q (λq=>((Kd.Aj (Kd.Aj (Kd.Aj (Kd.BE (t.o) (Kd.Ca u.o) (by decide)) a.o (by decide)) b.o (by decide)) c.o (by decide)).1 T q.symm).1.2) (λq=>((Kd.Aj (Kd.Aj (Kd.Aj (Kd.BE (u.o) (Kd.Ca t.o) (by decide)) a.o (by decide)) b.o (by decide)) c.o (by decide)).1 T q.symm).1.2)) (λag=>(Kd.Dk (g:=r) (o:=.cells #[.int .i64 W,.int .i64 X,.int .i64 Y,.int .i64 Z,.string aa] 30 (0,0)) (Bc b.o) T ag)),SH ak (λq=>SH q (λq=>((Kd.Aj (Kd.Aj (Kd.Aj (Kd.BE (t.o) (Kd.Ca u.o) (by decide)) a.o (by decide)) b.o (by decide)) c.o (by decide)).1 T q.symm).2) (λq=>((Kd.Aj (Kd.Aj (Kd.Aj (Kd.BE (u.o) (Kd.Ca t.o) (by decide)) a.o (by decide)) b.o (by decide)) c.o (by decide)).1 T q.symm).2)) (λag=>(Kd.Dk (g:=d) (o:=.cells #[.int .i64 0,.int .i64 0,.slice none 0 0,.slice none 0 0,.int .i64 0,.int .i64 0] 26 (0,0)) (Bc c.o) T ag))⟩)) (Af (Ag)));have aI:=a_ (Kd.F8 (Kd.AD (Fi:=λT=>(w.heap.size≤T)∧T≠m∧T≠r∧T≠d) aO (λT ak=>⟨SH ak (λq=>SH q (λq=>((Kd.Aj (Kd.Aj (Kd.Aj (Kd.BE (t.o) (Kd.Ca u.o) (by decide)) a.o (by decide)) b.o (by decide)) c.o (by decide)).1 T q.symm).1.1.1.1.1) (λq=>((Kd.Aj (Kd.Aj (Kd.Aj (Kd.BE (u.o) (Kd.Ca t.o) (by decide)) a.o (by decide)) b.o (by decide)) c.o (by decide)).1 T q.symm).1.1.1.1.1)) (λag=>(RJ (Af (Ag)) ag)),SH ak (λq=>SH q (λq=>((Kd.Aj (Kd.Aj (Kd.Aj (Kd.BE (t.o) (Kd.Ca u.o) (by decide)) a.o (by decide)) b.o (by decide)) c.o (by decide)).1 T q.symm).1.1.2) (λq=>((Kd.Aj (Kd.Aj (Kd.Aj (Kd.BE (u.o) (Kd.Ca t.o) (by decide)) a.o (by decide)) b.o (by decide)) c.o (by decide)).1 T q.symm).1.1.2)) (λag=>(Kd.Dk (g:=m) (o:=.cells #[.int .i64 B,.int .i64 D,.slice I x.length L,.slice J y.length O,.int .i64 E,.int .i64 G] 26 (0,0)) (Bc a.o) T ag)),SH ak (λq=>SH q (λq=>((Kd.Aj (Kd.Aj (Kd.Aj (Kd.BE (t.o) (Kd.Ca u.o) (by decide)) a.o (by decide)) b.o (by decide)) c.o (by decide)).1 T q.symm).1.2) (λq=>((Kd.Aj (Kd.Aj (Kd.Aj (Kd.BE (u.o) (Kd.Ca t.o) (by decide)) a.o (by decide)) b.o (by decide)) c.o (by decide)).1 T q.symm).1.2)) (λag=>(Kd.Dk (g:=r) (o:=.cells #[.int .i64 W,.int .i64 X,.int .i64 Y,.int .i64 Z,.string aa] 30 (0,0)) (Bc b.o) T ag)),SH ak (λq=>SH q (λq=>((Kd.Aj (Kd.Aj (Kd.Aj (Kd.BE (t.o) (Kd.Ca u.o) (by decide)) a.o (by decide)) b.o (by decide)) c.o (by decide)).1 T q.symm).2) (λq=>((Kd.Aj (Kd.Aj (Kd.Aj (Kd.BE (u.o) (Kd.Ca t.o) (by decide)) a.o (by decide)) b.o (by decide)) c.o (by decide)).1 T q.symm).2)) (λag=>(Kd.Dk (g:=d) (o:=.cells #[.int .i64 0,.int .i64 0,.slice none 0 0,.slice none 0 0,.int .i64 0,.int .i64 0] 26 (0,0)) (Bc c.o) T ag))⟩)) (Af (Ag)));replace t:=a_ (Kd.AJ (AV t.o) U);replace u:=a_ (Kd.AJ (AV u.o) U);replace HB:=Bw U;replace a:=a_ (Cr a.o U);replace b:=a_ (Cr b.o U);replace c:=a_ (Cr c.o U);try clear U aN aO
  obtain⟨aF,aJ,a1⟩:=Kd.Cd aH.o;(first|subst a1|(injection a1 with ai ar aj;have au:=ai.symm;have av:=aj.symm;clear ai ar aj;subst au;subst av));obtain⟨aG,aK,a2⟩:=Kd.Cd aI.o;(first|subst a2|(injection a2 with ai ar aj;have au:=ai.symm;have av:=aj.symm;clear ai ar aj;subst au;subst av));refine hK.out _ _ ⟨(Ax a.o 0).trans rfl,(Ax a.o 1).trans rfl,(Ax a.o 2).trans rfl,(Ax a.o 3).trans rfl,(Ax a.o 4).trans rfl,(Ax a.o 5).trans rfl,(Ax b.o 0).trans rfl,(Ax b.o 1).trans rfl,(Ax b.o 2).trans rfl,(Ax b.o 3).trans rfl,(Ax b.o 4).trans rfl⟩ (λA=>?_);clear hK K;refine Er 13 ?_;refine Bf 4 14 ?_;refine Bf 5 15 ?_;refine J_ (i:=6) (N:=none) #[true,true,true,true,true,true,true,false] rfl rfl (Gc HT_.o (by kernel_rfl)) (by decide) (λK hK=>?_);have cL:aE.cell? ⟨d,0,none⟩=some (.int .i64 0):=(Ax c.o 0).trans rfl;have cu:=BU c.o 0;have bp:=j.o;have bq:=l.o;have bc:=v.o;have bd:=z.o;have cM:aE.cell? ⟨d,1,none⟩=some (.int .i64 0):=(Ax c.o 1).trans rfl;have cv:=BU c.o 1;have br:=j.o;have bu:=l.o;have be:=v.o;have bf:=z.o;have cN:aE.cell? ⟨d,2,none⟩=some (.slice none 0 0):=(Ax c.o 2).trans rfl;have cw:=BU c.o 2;have bw:=j.o;have bx:=l.o;have bg:=v.o;have bh:=z.o;have cO:aE.cell? ⟨d,3,none⟩=some (.slice none 0 0):=(Ax c.o 3).trans rfl;have cx:=BU c.o 3;have bz:=j.o;have bA:=l.o;have bj:=v.o;have bk:=z.o;have cP:aE.cell? ⟨d,4,none⟩=some (.int .i64 0):=(Ax c.o 4).trans rfl;have cy:=BU c.o 4;have bB:=j.o;have bC:=l.o;have bl:=v.o;have bm:=z.o;have cQ:aE.cell? ⟨d,5,none⟩=some (.int .i64 0):=(Ax c.o 5).trans rfl;have cz:=BU c.o 5;have bD:=j.o;have bE:=l.o;have bn:=v.o;have bo:=z.o;refine EL (w1:=?_) (by rfl) rfl ?_ ?_;rotate_left
  ·go_simp;rfl
  refine hK.out _ _ ⟨(FG (g:=d) j.o (A.1)),(FG (g:=d) j.o (A.2.1)),(FG (g:=d) j.o (A.2.2.1)),(FG (g:=d) j.o (A.2.2.2.1)),(FG (g:=d) j.o (A.2.2.2.2.1)),(FG (g:=d) j.o (A.2.2.2.2.2.1)),(FG (g:=d) l.o (A.2.2.2.2.2.2.1)),(FG (g:=d) l.o (A.2.2.2.2.2.2.2.1)),(FG (g:=d) l.o (A.2.2.2.2.2.2.2.2.1)),(FG (g:=d) l.o (A.2.2.2.2.2.2.2.2.2.1)),(FG (g:=d) l.o (A.2.2.2.2.2.2.2.2.2.2))⟩ (λA=>?_);clear hK K;refine Bf 7 5 ?_;refine CV (CT HT_.o (by kernel_rfl)) ?_;try go_wp2
  refine RH (CJ rfl _ _ d 26 #[.int .i64 ay,.int .i64 az,.slice aF aA.length aJ,.slice aG aB.length aK,.int .i64 aC,.int .i64 aD] (0,0) _ rfl (F4 c.o) RP rfl (by kernel_rfl)) rfl ?_;exact⟨_,_,C8,by refine Dj ?_;exact Kd.AD (Kd.AA (p:=⟨d,5,none⟩) (Kd.AA (p:=⟨d,4,none⟩) (Kd.AA (p:=⟨d,3,none⟩) (Kd.AA (p:=⟨d,2,none⟩) (Kd.AA (p:=⟨d,1,none⟩) (Kd.AA (p:=⟨d,0,none⟩) (Kd.AD aH.o (λT hk=>(⟨hk,hk.2.2.2⟩:_∧T≠d))) (λ_ hk=>hk.2) (.int .i64 ay)) (λ_ hk=>hk.2) (.int .i64 az)) (λ_ hk=>hk.2) (.slice aF aA.length aJ)) (λ_ hk=>hk.2) (.slice aG aB.length aK)) (λ_ hk=>hk.2) (.int .i64 aC)) (λ_ hk=>hk.2) (.int .i64 aD)) (λ_ hk=>hk.1.1),by refine Dj ?_;exact Kd.AD (Kd.AA (p:=⟨d,5,none⟩) (Kd.AA (p:=⟨d,4,none⟩) (Kd.AA (p:=⟨d,3,none⟩) (Kd.AA (p:=⟨d,2,none⟩) (Kd.AA (p:=⟨d,1,none⟩) (Kd.AA (p:=⟨d,0,none⟩) (Kd.AD aI.o (λT hk=>(⟨hk,hk.2.2.2⟩:_∧T≠d))) (λ_ hk=>hk.2) (.int .i64 ay)) (λ_ hk=>hk.2) (.int .i64 az)) (λ_ hk=>hk.2) (.slice aF aA.length aJ)) (λ_ hk=>hk.2) (.slice aG aB.length aK)) (λ_ hk=>hk.2) (.int .i64 aC)) (λ_ hk=>hk.2) (.int .i64 aD)) (λ_ hk=>hk.1.1),Ag⟩
 replace c4:=RE.mpr c4;subst c4;have H1:(some (0,0,([]:List (Ba)),([]:List (AQ)),0,0,false))=some (r1,r2,r3,r4,r5,r6,r7):=by rw[Rz (show¬ (false=true) by decide)]at H;exact H
 clear H;have H:=H1;clear H1;simp only[Option.some.injEq,Prod.mk.injEq]at H;obtain⟨rfl,rfl,rfl,rfl,rfl,rfl,rfl⟩:=H;go_enter Tryd.func9,Tryd.ntmps9;go_wp2_with(first|((with_reducible refine BV (N:=2) rfl ?_);refine Cy 2 (#[.int .i64 B,.int .i64 D,.slice I x.length L,.slice J y.length O,.int .i64 E,.int .i64 G]) 26 ?_;intro m hg cZ P U;have a:=a_ (P);have a6:=BD w hg;have a3:=BD w hg;replace HB:=Bw U;clear U P hg)|((with_reducible refine BV (N:=3) rfl ?_);refine Cy 3 (#[.int .i64 W,.int .i64 X,.int .i64 Y,.int .i64 Z,.string aa]) 30 ?_;intro r hg c0 P U;have b:=a_ (P);have a7:=BD w hg;have a4:=BD w hg;have ab:=a_ ((by rw[hg];exact RN (Av (g:=m) (o:=.cells #[.int .i64 B,.int .i64 D,.slice I x.length L,.slice J y.length O,.int .i64 E,.int .i64 G] 26 (0,0)) (Bc a.o)):m≠r));have ae:=a_ ((by rw[hg];exact RM (Av (g:=m) (o:=.cells #[.int .i64 B,.int .i64 D,.slice I x.length L,.slice J y.length O,.int .i64 E,.int .i64 G] 26 (0,0)) (Bc a.o)):r≠m));replace a:=a_ (Cr a.o U);replace HB:=Bw U;clear U P hg)|((with_reducible refine BV (N:=4) rfl ?_);refine Cy 4 (#[.int .i64 0,.int .i64 0,.slice none 0 0,.slice none 0 0,.int .i64 0,.int .i64 0]) 26 ?_;intro d hg c1 P U;have c:=a_ (P);have a8:=BD w hg;have a5:=BD w hg;have j:=a_ ((by rw[hg];exact RN (Av (g:=m) (o:=.cells #[.int .i64 B,.int .i64 D,.slice I x.length L,.slice J y.length O,.int .i64 E,.int .i64 G] 26 (0,0)) (Bc a.o)):m≠d));have v:=a_ ((by rw[hg];exact RM (Av (g:=m) (o:=.cells #[.int .i64 B,.int .i64 D,.slice I x.length L,.slice J y.length O,.int .i64 E,.int .i64 G] 26 (0,0)) (Bc a.o)):d≠m));have l:=a_ ((by rw[hg];exact RN (Av (g:=r) (o:=.cells #[.int .i64 W,.int .i64 X,.int .i64 Y,.int .i64 Z,.string aa] 30 (0,0)) (Bc b.o)):r≠d));have z:=a_ ((by rw[hg];exact RM (Av (g:=r) (o:=.cells #[.int .i64 W,.int .i64 X,.int .i64 Y,.int .i64 Z,.string aa] 30 (0,0)) (Bc b.o)):d≠r));replace a:=a_ (Cr a.o U);replace b:=a_ (Cr b.o U);replace HB:=Bw U;clear U P hg;have cC:=ab.o;have cH:=ae.o;have cD:=j.o;have cI:=v.o;obtain⟨cd,cf,cg,cj,ck,cl,bP,bQ,bR,bS,bT,bU⟩:=BT a.o)|((with_reducible refine BQ (f:=7) rfl ?_);refine BW 7 Tryd.func7 #[.agg #[.int .i64 B,.int .i64 D,.slice I x.length L,.slice J y.length O,.int .i64 E,.int .i64 G]] ?_;(with_reducible refine(Ap.calls k B D _ _ x _ _ y E G false _ ?q' ?z' ?y' ?v' A3.o).mono ?_);(case q'=>exact F0 ao.o);(case z'=>exact al.o);(case y'=>exact E9 (Kd.Bu aq.o HB.o));(case v'=>exact an.o);rintro e c_ ⟨rfl,U⟩;refine⟨_,rfl,?_⟩;replace HB:=Bw U;replace a:=a_ (Cr a.o U);replace b:=a_ (Cr b.o U);replace c:=a_ (Cr c.o U);(try clear U);have cE:=z.o;have cJ:=l.o;obtain⟨cm,cn,cp,cq,cr,ct,bV,bW,bX,bY,bZ,b6⟩:=BT c.o));refine RH (CJ rfl _ _ d 26 #[.int .i64 0,.int .i64 0,.slice none 0 0,.slice none 0 0,.int .i64 0,.int .i64 0] (0,0) _ rfl (F4 c.o) RP rfl (by kernel_rfl)) rfl ?_;exact⟨_,_,C8,Kd.Ip _ _ _ _ _,Kd.Ip _ _ _ _ _,Ag⟩
def CE.f(c:Int)(b:Int):Option (Int):=(Cc.f c).bind λa=>(if a=true then(if b<1 then(some 0)else(if b>6 then(some 0)else(some (wrap64 ((wrap64 (10*c))+b)))))else(some 0))
theorem CE.calls(a:Int)(b:Int)(r:Int)(w:World)(h:CE.f a b=some r) :
  Calls Tryd.prog 13 #[.int .i64 a,.int .i64 b] w λe w'=>e=.returned (.int .i64 r)∧As w w':=by
 unfold CE.f at h;have H:=h;clear h;replace H:=BR H;obtain⟨i,c,H⟩:=H;try dsimp only at H
 have j:=a_ c;clear c;by_cases c4:i=true
 ·subst c4;have H1:(if b<1 then(some 0)else(if b>6 then(some 0)else(some (wrap64 ((wrap64 (10*a))+b)))))=some r:=by rw[Ry rfl]at H;exact H
  clear H;have H:=H1;clear H1;by_cases c5:b<1
  ·rw[Ry c5]at H;have d:decide (b<1)=true:=BM c5;clear c5;obtain rfl:=CW H;go_enter Tryd.func13,Tryd.ntmps13;go_wp2_with(first|((with_reducible refine BQ (f:=17) rfl ?_);refine BW 6 SN #[.int .i64 a] ?_;(with_reducible refine(Cc.calls a true _ j.o).mono ?_);rintro e w' ⟨rfl,⟨nd,rfl⟩⟩;refine⟨_,rfl,?_⟩));go_ret;exact⟨CA,by repeat(first|exact As.refl _|apply As.step)⟩
  rw[Rz c5]at H;have d:decide (b<1)=false:=C9 c5;clear c5;by_cases c6:b>6
  ·rw[Ry c6]at H;have g:decide (6<b)=true:=BM c6;clear c6;obtain rfl:=CW H;go_enter Tryd.func13,Tryd.ntmps13;go_wp2_with(first|((with_reducible refine BQ (f:=17) rfl ?_);refine BW 6 SN #[.int .i64 a] ?_;(with_reducible refine(Cc.calls a true _ j.o).mono ?_);rintro e w' ⟨rfl,⟨nd,rfl⟩⟩;refine⟨_,rfl,?_⟩));go_ret;exact⟨CA,by repeat(first|exact As.refl _|apply As.step)⟩
  rw[Rz c6]at H;have g:decide (6<b)=false:=C9 c6;clear c6;obtain rfl:=CW H;go_enter Tryd.func13,Tryd.ntmps13;go_wp2_with(first|((with_reducible refine BQ (f:=17) rfl ?_);refine BW 6 SN #[.int .i64 a] ?_;(with_reducible refine(Cc.calls a true _ j.o).mono ?_);rintro e w' ⟨rfl,⟨nd,rfl⟩⟩;refine⟨_,rfl,?_⟩));go_ret;exact⟨CA,by repeat(first|exact As.refl _|apply As.step)⟩
 replace c4:=RE.mpr c4;subst c4;have H1:(some 0)=some r:=by rw[Rz (show¬ (false=true) by decide)]at H;exact H
 clear H;have H:=H1;clear H1;obtain rfl:=CW H;go_enter Tryd.func13,Tryd.ntmps13;go_wp2_with(first|((with_reducible refine BQ (f:=17) rfl ?_);refine BW 6 SN #[.int .i64 a] ?_;(with_reducible refine(Cc.calls a false _ j.o).mono ?_);rintro e w' ⟨rfl,⟨nd,rfl⟩⟩;refine⟨_,rfl,?_⟩));go_ret;exact⟨CA,by repeat(first|exact As.refl _|apply As.step)⟩
end Go.Proofs.YtlhlpfnljglhoaaDoor.P
namespace Go.Proofs.YtlhlpfnljglhoaaDoor.P
open Go.RowKit
def FZ:List Int:=[0,1,1,1,0,0,0,0,0,0,0,2,2,2,2,2,2,0,0,0,0,3,3,3,3,3,3,0,0,0,0,4,4,4,4,4,4]
def Cm(w:World):Prop:=Lib.TabIs Tryd.prog w "loop.example/plashet/impl.rowOwners" .i64 FZ
theorem GF:Tryd.prog.globalNamed "loop.example/plashet/impl.rowOwners" = some 0:=by kernel_rfl
theorem Cm.var{w:World}(h:Cm w):w.var? Tryd.prog "loop.example/plashet/impl.rowOwners" = some (FZ.map λz=>Value.int .i64 z).toArray:=h
theorem Cm.lt{w:World}(h:Cm w):0<w.heap.size:=by
 have h:=h.var;unfold World.var? at h;simp only[GF,Option.bind_some]at h;rcases SG 0 w.heap.size with hl|hl
 ·exact hl
 rw[Array.getElem?_eq_none hl]at h;cases h
theorem Cm.below{w w':World}(h:Cm w)(a:Below w.heap.size w w'):Cm w':=by have hl:=h.lt;have h:=h.var;unfold Cm Lib.TabIs World.var? at *;simp only[GF,Option.bind_some]at h⊢;rw[a.block _ hl];exact h
theorem Cm.drew{w:World}(h:Cm w):Cm w.drew:=by have h:=h.var;unfold Cm Lib.TabIs World.var? at *;exact h
theorem Cm.drewN{w:World}(h:Cm w)(n:Nat):Cm (w.drewN n):=by
 induction n generalizing w with
 | zero=>exact h
 | succ n a=>rw[<-World.drew_drewN];exact a h.drew
theorem Cm.cell{w:World}(h:Cm w)(i:Nat)(hi:i<37):w.cell? ⟨0,i,none⟩=some (.int .i64 (FZ.getD i 0)):=by have a:=World.var?_cell GF h.var i;rw[a];have hl:i<FZ.length:=hi;simp[List.getD_eq_getElem?_getD,List.getElem?_eq_getElem hl]
def EO(id:Int):Int:=if 0≤id∧id<37 then FZ.getD id.toNat 0 else 0
theorem Cm.at_{w:World}(h:Cm w)(i:Int)(h0:0≤i)(h1:i<37):w.cell? ⟨0,i.toNat,none⟩=some (.int .i64 (EO i)):=by have:=h.cell i.toNat (by omega);rw[EO,Ry ⟨h0,h1⟩];exact this
theorem Kb:∀z∈FZ,0≤z∧z≤4:=by decide
theorem Lh(i:Int):0≤EO i∧EO i≤4:=by
 unfold EO;split
 ·rename_i h;have hl:i.toNat<FZ.length:=by have:FZ.length=37:=rfl;omega
  rw[RS,RD hl];exact Kb _ (RR hl)
 omega
end Go.Proofs.YtlhlpfnljglhoaaDoor.P
namespace Go.Proofs.YtlhlpfnljglhoaaDoor.P
open Go.RowKit Go.Proofs.YtlhlpfnljglhoaaDoorW.PrintWords
def Cz.f(a:Int):Option (Int×Bool):=some (if EO a=0 then(0,false)else(EO a-1,true))
theorem Cz.calls(a:Int)(d:Int)(g:Bool)(w:World)(h:Cz.f a=some (d,g))(b:Cm w) :
  Calls Tryd.prog 38 #[.int .i64 a] w λe w'=>e=.returned (.tuple #[.int .i64 d,.bool g])∧As w w':=by
 unfold Cz.f at h;by_cases h0:0≤a
 ·by_cases h1:a<37
  ·have i:=b.at_ a h0 h1;have c:=Lh a;generalize EO a=z at i c h;by_cases hz:z=0
   ·subst hz;simp only[if_true,Option.some.injEq,Prod.mk.injEq]at h;obtain⟨rfl,rfl⟩:=h;clear c b;go_enter Tryd.func38,Tryd.ntmps38;go_wp2;go_ret2;exact⟨rfl,As.refl _⟩
   rw[Rz hz]at h;simp only[Option.some.injEq,Prod.mk.injEq]at h;obtain⟨rfl,rfl⟩:=h;have m:(z==0)=false:=Sx.2 hz;have k:0≤z:=c.1;have l:z≤4:=c.2;clear c b;go_enter Tryd.func38,Tryd.ntmps38;go_wp2;go_ret2;exact⟨rfl,As.refl _⟩
  have e:EO a=0:=by rw[EO,Rz (by omega)]
  rw[Ry e]at h;simp only[Option.some.injEq,Prod.mk.injEq]at h;obtain⟨rfl,rfl⟩:=h;clear e b;go_enter Tryd.func38,Tryd.ntmps38;go_wp2;go_ret2;exact⟨rfl,As.refl _⟩
 have e:EO a=0:=by rw[EO,Rz (by omega)]
 rw[Ry e]at h;simp only[Option.some.injEq,Prod.mk.injEq]at h;obtain⟨rfl,rfl⟩:=h;clear e b;have j:a<0:=by omega
 go_enter Tryd.func38,Tryd.ntmps38;go_wp2;go_ret2;exact⟨rfl,As.refl _⟩
end Go.Proofs.YtlhlpfnljglhoaaDoor.P
namespace Go.Proofs.YtlhlpfnljglhoaaDoor.P
open Go.RowKit Go.Proofs.YtlhlpfnljglhoaaDoorW.PrintWords Go.Proofs.YtlhlpfnljglhoaaDoorW.Bb
def Ce.f(b:Int):Option (Bool):=(Cz.f b).bind λa=>(if a.2=true then(some (a.1==0))else(some false))
theorem Ce.calls(b:Int)(r:Bool)(w:World)(h:Ce.f b=some r)(i:Cm w) :
  Calls Tryd.prog 36 #[.int .i64 b] w λe w'=>e=.returned (.bool r)∧As w w':=by
 have HG:=a_ i;clear i;unfold Ce.f at h;have H:=h;clear h;replace H:=BR H;obtain⟨⟨a,d⟩,c,H⟩:=H;try dsimp only at H
 have g:=a_ c;clear c;by_cases c3:d=true
 ·subst c3;have H1:(some (a==0))=some r:=by rw[Ry rfl]at H;exact H
  clear H;have H:=H1;clear H1;obtain rfl:=CW H;go_enter Tryd.func36,Tryd.ntmps36;go_wp2_with(first|((with_reducible refine BQ (f:=38) rfl ?_);refine BW 7 TG #[.int .i64 b] ?_;(with_reducible refine(Cz.calls b a true _ g.o ?q').mono ?_);(case q'=>exact DN);rintro e w' ⟨rfl,⟨nd,rfl⟩⟩;refine⟨_,rfl,?_⟩));go_ret;exact⟨CA,by repeat(first|exact As.refl _|apply As.step)⟩
 replace c3:=RE.mpr c3;subst c3;have H1:(some false)=some r:=by rw[Rz (show¬ (false=true) by decide)]at H;exact H
 clear H;have H:=H1;clear H1;obtain rfl:=CW H;go_enter Tryd.func36,Tryd.ntmps36;go_wp2_with(first|((with_reducible refine BQ (f:=38) rfl ?_);refine BW 7 TG #[.int .i64 b] ?_;(with_reducible refine(Cz.calls b a false _ g.o ?q').mono ?_);(case q'=>exact DN);rintro e w' ⟨rfl,⟨nd,rfl⟩⟩;refine⟨_,rfl,?_⟩));go_ret;exact⟨CA,by repeat(first|exact As.refl _|apply As.step)⟩
def AP.f(b:Int):Option (Bool):=(Cz.f b).bind λa=>(if a.2=true then(some (a.1 != 0))else(some false))
theorem AP.calls(b:Int)(r:Bool)(w:World)(h:AP.f b=some r)(i:Cm w) :
  Calls Tryd.prog 50 #[.int .i64 b] w λe w'=>e=.returned (.bool r)∧As w w':=by
 have HG:=a_ i;clear i;unfold AP.f at h;have H:=h;clear h;replace H:=BR H;obtain⟨⟨a,d⟩,c,H⟩:=H;try dsimp only at H
 have g:=a_ c;clear c;by_cases c3:d=true
 ·subst c3;have H1:(some (a != 0))=some r:=by rw[Ry rfl]at H;exact H
  clear H;have H:=H1;clear H1;obtain rfl:=CW H;go_enter Tryd.func50,Tryd.ntmps50;go_wp2_with(first|((with_reducible refine BQ (f:=38) rfl ?_);refine BW 7 TG #[.int .i64 b] ?_;(with_reducible refine(Cz.calls b a true _ g.o ?q').mono ?_);(case q'=>exact DN);rintro e w' ⟨rfl,⟨nd,rfl⟩⟩;refine⟨_,rfl,?_⟩));go_ret;exact⟨CA,by repeat(first|exact As.refl _|apply As.step)⟩
 replace c3:=RE.mpr c3;subst c3;have H1:(some false)=some r:=by rw[Rz (show¬ (false=true) by decide)]at H;exact H
 clear H;have H:=H1;clear H1;obtain rfl:=CW H;go_enter Tryd.func50,Tryd.ntmps50;go_wp2_with(first|((with_reducible refine BQ (f:=38) rfl ?_);refine BW 7 TG #[.int .i64 b] ?_;(with_reducible refine(Cz.calls b a false _ g.o ?q').mono ?_);(case q'=>exact DN);rintro e w' ⟨rfl,⟨nd,rfl⟩⟩;refine⟨_,rfl,?_⟩));go_ret;exact⟨CA,by repeat(first|exact As.refl _|apply As.step)⟩
def Bq.l0:Nat->ByteArray->Int->Option (Bool)
 | 0,_,_=>none
 | k+1,b,a=>if a<(b.size:Int)then(if 0≤a then(if(bt b a)<97 then(some false)else(if(bt b a)>100 then(some false)else(Bq.l0 k b (wrap64 (a+1)))))else(none))else(some true)
def Bq.f(k:Nat)(a:ByteArray):Option (Bool):=if(a.size:Int)>4 then(some false)else(Bq.l0 k a 0)
theorem Bq.calls(k:Nat)(b:ByteArray)(r:Bool)(w:World)(h:Bq.f k b=some r) :
  Calls Tryd.prog 51 #[.string b] w λe w'=>e=.returned (.bool r)∧As w w':=by
 unfold Bq.f at h;have H:=h;clear h;by_cases c2:(b.size:Int)>4
 ·rw[Ry c2]at H;have c:decide (4<(b.size:Int))=true:=BM c2;have d:decide (4<b.size)=true:=BM (by omega);clear c2;obtain rfl:=CW H;go_enter Tryd.func51,Tryd.ntmps51;go_wp2;go_ret;exact⟨CA,by repeat(first|exact As.refl _|apply As.step)⟩
 rw[Rz c2]at H;have c:decide (4<(b.size:Int))=false:=C9 c2;have d:decide (4<b.size)=false:=C9 (by omega);clear c2;have t:=a_ H;clear H;go_enter Tryd.func51,Tryd.ntmps51;go_wp2;go_loopg [3] k (λy v3 w'=>∃(a:Int),v3=.int .i64 a∧Ac (Bq.l0 y b a=some r)∧Ac (y≤k)∧As w w')
 case atStart=>exact⟨(0),(CA),t,⟨RB _⟩,by repeat(first|exact As.refl _|apply As.step)⟩
 clear t;try clear c2
 try clear c
 try clear d
 obtain⟨a,rfl,u,j,⟨A,rfl⟩⟩:=hrel;cases gk with
 | zero=>exact absurd u.o (by simp[Bq.l0])
 | succ z =>
  have H:=u.o
  clear u
  simp only[Bq.l0]at H
  by_cases c3:a<(b.size:Int)
  ·rw[Ry c3]at H
   have l:decide (a<(b.size:Int))=true:=BM c3
   clear c3
   by_cases c4:0≤a
   ·rw[Ry c4]at H
    have x:decide (0≤a)=true:=BM c4
    clear c4
    by_cases c6:(bt b a)<97
    ·rw[Ry c6]at H
     have m:decide ((bt b a)<97)=true:=BM c6
     clear c6
     obtain rfl:=CW H
     have g:0≤(a:Int):=Bv
     have i:a<(b.size:Int):=Bv
     have o:=IZ b a
     replace g:=RA g
     replace i:=RA i
     go_wp2
     go_ret
     exact⟨CA,by repeat(first|exact As.refl _|apply As.step)⟩
    ·rw[Rz c6]at H
     have m:decide ((bt b a)<97)=false:=C9 c6
     clear c6
     by_cases c8:(bt b a)>100
     ·rw[Ry c8]at H
      have n:decide (100<(bt b a))=true:=BM c8
      clear c8
      obtain rfl:=CW H
      have g:0≤(a:Int):=Bv
      have i:a<(b.size:Int):=Bv
      have o:=IZ b a
      replace g:=RA g
      replace i:=RA i
      have p:0≤(a:Int):=Bv
      have q:a<(b.size:Int):=Bv
      have v:=IZ b a
      replace p:=RA p
      replace q:=RA q
      go_wp2
      go_ret
      exact⟨CA,by repeat(first|exact As.refl _|apply As.step)⟩
     ·rw[Rz c8]at H
      have n:decide (100<(bt b a))=false:=C9 c8
      clear c8
      have t:=a_ H
      clear H
      have g:0≤(a:Int):=Bv
      have i:a<(b.size:Int):=Bv
      have o:=IZ b a
      replace g:=RA g
      replace i:=RA i
      have p:0≤(a:Int):=Bv
      have q:a<(b.size:Int):=Bv
      have v:=IZ b a
      replace p:=RA p
      replace q:=RA q
      go_wp2
      go_roundg z
      case measure=>have:=j.o;omega
      case rel=>exact⟨(wrap64 (a+1)),(CA),t,⟨by have:=j.o;omega⟩,by repeat(first|exact As.refl _|apply As.step)⟩
   ·rw[Rz c4]at H
    exact absurd H (by simp)
  ·rw[Rz c3]at H
   have l:decide (a<(b.size:Int))=false:=C9 c3
   clear c3
   obtain rfl:=CW H
   go_wp2
   go_ret
   exact⟨CA,by repeat(first|exact As.refl _|apply As.step)⟩
def DI.f(k:Nat)(b:Int)(a:Int)(c:ByteArray):Option (Bool):=(Ce.f b).bind λd=>(if d=true then(if a=0 then(some (c.toList==([]:List UInt8)))else(some false))else((AP.f b).bind λe=>(if e=true then(if a≥1 then(if a≤18 then((Bq.f k c).bind λg=>(some g))else(some false))else(some false))else(some false))))
theorem DI.calls(k:Nat)(a:Int)(b:Int)(g:ByteArray)(r:Bool)(w:World)(h:DI.f k a b g=some r)(hG:Cm w) :
  Calls Tryd.prog 35 #[.agg #[.int .i64 a,.int .i64 b,.string g]] w λe w'=>e=.returned (.bool r)∧Below w.heap.size w w':=by
 have aD:=SI;have HB:=a_ (RG w.heap.size w);have HG:=a_ hG;clear hG;unfold DI.f at h;have H:=h;clear h;replace H:=BR H;obtain⟨D,y,H⟩:=H;try dsimp only at H
 have x:=a_ y;clear y;by_cases c3:D=true
 ·subst c3;have H1:(if b=0 then(some (g.toList==([]:List UInt8)))else(some false))=some r:=by rw[Ry rfl]at H;exact H
  clear H;have H:=H1;clear H1;by_cases c4:b=0
  ·rw[Ry c4]at H;have A:(b==0)=true:=RO.mpr c4;have B:(b != 0)=false:=Fc c4;clear c4;obtain rfl:=CW H;go_enter Tryd.func35,Tryd.ntmps35;go_wp2_with(first|((with_reducible refine BV (N:=1) rfl ?_);refine Cy 1 (#[.int .i64 a,.int .i64 b,.string g]) 68 ?_;intro l hg w5 c m;have d:=a_ (c);have j:=BD w hg;have i:=BD w hg;replace HB:=Bw m;clear m c hg;obtain⟨ax,ay,az,ao,aq,ar⟩:=DV d.o)|((with_reducible refine BQ (f:=36) rfl ?_);refine BW 5 TF #[.int .i64 a] ?_;(with_reducible refine(Ce.calls a true _ x.o ?q').mono ?_);(case q'=>exact Cm.below HG.o (Ag));rintro e w' ⟨rfl,⟨nd,rfl⟩⟩;refine⟨_,rfl,?_⟩));go_ret;exact⟨C8,Ag⟩
  rw[Rz c4]at H;have A:(b==0)=false:=Dr c4;have B:(b != 0)=true:=RX.mpr c4;obtain rfl:=CW H;go_enter Tryd.func35,Tryd.ntmps35;go_wp2_with(first|((with_reducible refine BV (N:=1) rfl ?_);refine Cy 1 (#[.int .i64 a,.int .i64 b,.string g]) 68 ?_;intro l hg w7 c m;have d:=a_ (c);have j:=BD w hg;have i:=BD w hg;replace HB:=Bw m;clear m c hg;obtain⟨aA,aB,aC,au,av,aw⟩:=DV d.o)|((with_reducible refine BQ (f:=36) rfl ?_);refine BW 5 TF #[.int .i64 a] ?_;(with_reducible refine(Ce.calls a true _ x.o ?q').mono ?_);(case q'=>exact Cm.below HG.o (Ag));rintro e w' ⟨rfl,⟨nd,rfl⟩⟩;refine⟨_,rfl,?_⟩));go_ret;exact⟨C8,Ag⟩
 replace c3:=RE.mpr c3;subst c3;have H1:((AP.f a).bind λq=>(if q=true then(if b≥1 then(if b≤18 then((Bq.f k g).bind λn=>(some n))else(some false))else(some false))else(some false)))=some r:=by rw[Rz (show¬ (false=true) by decide)]at H;exact H
 clear H;have H:=H1;clear H1;replace H:=BR H;obtain⟨q,z,H⟩:=H;try dsimp only at H
 have E:=a_ z;clear z;by_cases DM:q=true
 ·subst DM;have H1:(if b≥1 then(if b≤18 then((Bq.f k g).bind λn=>(some n))else(some false))else(some false))=some r:=by rw[Ry rfl]at H;exact H
  clear H;have H:=H1;clear H1;by_cases o:b≥1
  ·rw[Ry o]at H;have u:decide (1≤b)=true:=BM o;clear o;by_cases p:b≤18
   ·rw[Ry p]at H;have v:decide (b≤18)=true:=BM p;clear p;replace H:=BR H;obtain⟨n,t,H⟩:=H;try dsimp only at H
    have G:=a_ t;clear t;obtain rfl:=CW H;go_enter Tryd.func35,Tryd.ntmps35;go_wp2_with(first|((with_reducible refine BV (N:=1) rfl ?_);refine Cy 1 (#[.int .i64 a,.int .i64 b,.string g]) 68 ?_;intro l hg aE c m;have d:=a_ (c);have j:=BD w hg;have i:=BD w hg;replace HB:=Bw m;clear m c hg;obtain⟨Z,aa,ab,I,J,K⟩:=DV d.o)|((with_reducible refine BQ (f:=36) rfl ?_);refine BW 5 TF #[.int .i64 a] ?_;(with_reducible refine(Ce.calls a false _ x.o ?q').mono ?_);(case q'=>exact Cm.below HG.o (Ag));rintro e w' ⟨rfl,⟨nd,rfl⟩⟩;refine⟨_,rfl,?_⟩)|((with_reducible refine BQ (f:=50) rfl ?_);refine BW 16 Tg #[.int .i64 a] ?_;(with_reducible refine(AP.calls a true _ E.o ?q').mono ?_);(case q'=>exact Cm.below HG.o (Ag));rintro e w' ⟨rfl,⟨nd,rfl⟩⟩;refine⟨_,rfl,?_⟩)|(go_at_call 51;(with_reducible refine(Bq.calls k g n _ G.o).mono ?_);rintro e w' ⟨rfl,⟨nd,rfl⟩⟩));go_ret;exact⟨C8,Ag⟩
   rw[Rz p]at H;have v:decide (b≤18)=false:=C9 p;clear p;obtain rfl:=CW H;go_enter Tryd.func35,Tryd.ntmps35;go_wp2_with(first|((with_reducible refine BV (N:=1) rfl ?_);refine Cy 1 (#[.int .i64 a,.int .i64 b,.string g]) 68 ?_;intro l hg aF c m;have d:=a_ (c);have j:=BD w hg;have i:=BD w hg;replace HB:=Bw m;clear m c hg;obtain⟨ae,af,ag,L,M,O⟩:=DV d.o)|((with_reducible refine BQ (f:=36) rfl ?_);refine BW 5 TF #[.int .i64 a] ?_;(with_reducible refine(Ce.calls a false _ x.o ?q').mono ?_);(case q'=>exact Cm.below HG.o (Ag));rintro e w' ⟨rfl,⟨nd,rfl⟩⟩;refine⟨_,rfl,?_⟩)|((with_reducible refine BQ (f:=50) rfl ?_);refine BW 16 Tg #[.int .i64 a] ?_;(with_reducible refine(AP.calls a true _ E.o ?q').mono ?_);(case q'=>exact Cm.below HG.o (Ag));rintro e w' ⟨rfl,⟨nd,rfl⟩⟩;refine⟨_,rfl,?_⟩));go_ret;exact⟨C8,Ag⟩
  rw[Rz o]at H;have u:decide (1≤b)=false:=C9 o;clear o;obtain rfl:=CW H;go_enter Tryd.func35,Tryd.ntmps35;go_wp2_with(first|((with_reducible refine BV (N:=1) rfl ?_);refine Cy 1 (#[.int .i64 a,.int .i64 b,.string g]) 68 ?_;intro l hg aG c m;have d:=a_ (c);have j:=BD w hg;have i:=BD w hg;replace HB:=Bw m;clear m c hg;obtain⟨ah,ai,aj,P,T,U⟩:=DV d.o)|((with_reducible refine BQ (f:=36) rfl ?_);refine BW 5 TF #[.int .i64 a] ?_;(with_reducible refine(Ce.calls a false _ x.o ?q').mono ?_);(case q'=>exact Cm.below HG.o (Ag));rintro e w' ⟨rfl,⟨nd,rfl⟩⟩;refine⟨_,rfl,?_⟩)|((with_reducible refine BQ (f:=50) rfl ?_);refine BW 16 Tg #[.int .i64 a] ?_;(with_reducible refine(AP.calls a true _ E.o ?q').mono ?_);(case q'=>exact Cm.below HG.o (Ag));rintro e w' ⟨rfl,⟨nd,rfl⟩⟩;refine⟨_,rfl,?_⟩));go_ret;exact⟨C8,Ag⟩
 replace DM:=RE.mpr DM;subst DM;have H1:(some false)=some r:=by rw[Rz (show¬ (false=true) by decide)]at H;exact H
 clear H;have H:=H1;clear H1;obtain rfl:=CW H;go_enter Tryd.func35,Tryd.ntmps35;go_wp2_with(first|((with_reducible refine BV (N:=1) rfl ?_);refine Cy 1 (#[.int .i64 a,.int .i64 b,.string g]) 68 ?_;intro l hg aH c m;have d:=a_ (c);have j:=BD w hg;have i:=BD w hg;replace HB:=Bw m;clear m c hg;obtain⟨ak,al,an,W,X,Y⟩:=DV d.o)|((with_reducible refine BQ (f:=36) rfl ?_);refine BW 5 TF #[.int .i64 a] ?_;(with_reducible refine(Ce.calls a false _ x.o ?q').mono ?_);(case q'=>exact Cm.below HG.o (Ag));rintro e w' ⟨rfl,⟨nd,rfl⟩⟩;refine⟨_,rfl,?_⟩)|((with_reducible refine BQ (f:=50) rfl ?_);refine BW 16 Tg #[.int .i64 a] ?_;(with_reducible refine(AP.calls a false _ E.o ?q').mono ?_);(case q'=>exact Cm.below HG.o (Ag));rintro e w' ⟨rfl,⟨nd,rfl⟩⟩;refine⟨_,rfl,?_⟩));go_ret;exact⟨C8,Ag⟩
end Go.Proofs.YtlhlpfnljglhoaaDoor.P
