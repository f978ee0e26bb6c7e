/- Joined by programs (wip/shake.py, wip/mini.py). -/
import Derived.Test.YtlhlpfnljglhoaaDoorZCp0
set_option linter.unusedVariables false
set_option linter.unusedSimpArgs false
set_option linter.unusedSectionVars false
set_option maxHeartbeats 8000000
set_option maxRecDepth 100000
namespace Go.Proofs.YtlhlpfnljglhoaaDoor.P
open Go.RowKit Go.Proofs.YtlhlpfnljglhoaaDoorW.PrintWords Go.Proofs.YtlhlpfnljglhoaaDoorW.Bc
theorem Bh.calls(k:Nat)  (r1:List (AM))(r2:Int)(r3:Bool)(r4:List (EI))(r5:List (Dm))(w:World)(h:Bh.f k  = some (r1,r2,r3,r4,r5)) :
  Calls Tryd.prog 58 #[] w λe w'=>∃aK bb bc:Value,e=.returned (.agg #[aK,.int .i64 r2,.bool r3,bb,bc])∧Kd.R BT 32 w' w.heap.size (λ_=>True) aK r1∧Kd.S GW 26 w' w.heap.size (λy=>some y≠(aK:Value).ownBlock) bb r4∧Kd.S E2 114 w' w.heap.size (λy=>some y≠(aK:Value).ownBlock) bc r5∧Below w.heap.size w w':=by
 have cS:=Tryd.underlying64;have cR:=Tryd.underlying26;have HB:=a_ (Below.refl w.heap.size w);unfold Bh.f at h;have H:=h;clear h;replace H:=BU H;obtain⟨⟨q,D,E⟩,a4,H⟩:=H;try dsimp only at H
 have A1:=a_ a4;clear a4;obtain⟨A,al⟩:∃y_:List (Dm),y_=(([]:List (Dm))):=⟨_,rfl⟩
 replace H:(Bh.l0 k 1 q D E ([]:List (EI)) A)=some (r1,r2,r3,r4,r5):=by first|(rw[al];with_reducible exact H)|(have au:=(Option.bind_some _ _).symm.trans H;rw[al];with_reducible exact au)|(have au:=(Option.bind_some _ _).symm.trans H;with_reducible exact au)|with_reducible exact H|(rw[al];exact H)|exact H
 have aG:=a_ al;clear al;have H':=a_ H;clear H;go_enter Tryd.func58,Tryd.ntmps58;go_wp2_with(first|((with_reducible refine Cd (N:=0) rfl ?_);refine CE 0 (#[.slice none 0 0,.int .i64 0,.bool false,.slice none 0 0,.slice none 0 0]) 64 ?_;intro l hg w2 ai Y;have j:=a_ (ai);have bh:=a_ ((by rw[hg];exact(Ab (Ad)):w.heap.size≤l));have be:=a_ ((by rw[hg];exact(Ab (Ad)):w.heap.size≤l));replace HB:=a_ (BA (Ad) Y);clear Y ai hg)|((with_reducible refine BN (f:=66) rfl ?_);refine BR 5 Tryd.func66 #[] ?_;(with_reducible refine(Er.calls  q D E _ A1.o).mono ?_);rintro e w3 ⟨cT,rfl,aD,Y⟩;refine⟨_,rfl,?_⟩;have ae:=a_ (Kd.AN aD (Ab (Ad)));replace HB:=a_ (BA (Ad) Y);replace j:=a_ (C3 j.o Y);(try clear Y aD))|((with_reducible refine Cd (N:=6) rfl ?_);refine Kd.Oi E2 _ 114 ?hg (N:=6) ?hd (xs:=([]:List (Dm))) (inner:=[]) (ok:=λ_=>True) (okp:=λ_=>True) ?hr ?hp (λ_ d=>d) trivial (Below.refl _ _) (Nat.le_refl _) (by simp) ?_;(case hd=>rfl);(case hg=>rfl);(case hr=>first|(go_simp;done)|(go_simp;rfl));(case hp=>exact(Bi.none _ _));intro cU w4 aI Y Du a3;clear Du a3;(first|rw[<-aG.o]at aI|(simp only[Int.reduceToNat]at aI;rw[<-aG.o]at aI));have aq:=a_ (Kd.DX (Kd.Mn aI (Kd.DQ (BC ae.o))) (Ab (Ad)));replace ae:=a_ (Kd.AZ (BC ae.o) Y);replace HB:=a_ (BA (Ad) Y);replace j:=a_ (C3 j.o Y);clear Y aI;obtain⟨ag,ah,cC⟩:=Kd.Ej aq.o;subst cC;obtain⟨G,I,cD⟩:=Kd.Bg ae.o;subst cD)|((with_reducible refine Cd (N:=1) rfl ?_);refine CE 1 (#[.slice none 0 0,.int .i64 0,.bool false,.slice none 0 0,.slice none 0 0]) 64 ?_;intro u hg w8 ai Y;have m:=a_ (ai);have bj:=a_ ((by rw[hg];exact(Ab (Ad)):w.heap.size≤u));have bf:=a_ ((by rw[hg];exact(Ab (Ad)):w.heap.size≤u));have K:=a_ ((by rw[hg];exact Nat.ne_of_lt (AU (g:=l) (o:=.cells #[.slice none 0 0,.int .i64 0,.bool false,.slice none 0 0,.slice none 0 0] 64 (0,0)) (Bp j.o)):l≠u));have af:=a_ ((by rw[hg];exact Nat.ne_of_gt (AU (g:=l) (o:=.cells #[.slice none 0 0,.int .i64 0,.bool false,.slice none 0 0,.slice none 0 0] 64 (0,0)) (Bp j.o)):u≠l));replace ae:=a_ (Kd.AZ (BC ae.o) Y);replace aq:=a_ (Kd.Fy (IV aq.o) Y);replace j:=a_ (C3 j.o Y);replace HB:=a_ (BA (Ad) Y);clear Y ai hg;have cP:=af.o;have cQ:=K.o;obtain⟨aX,aY,aZ,a0,a1,aR,aT,aU,aV,aW⟩:=Cy m.o));go_loopg [2] k (λkq v2 w'=>∃(ab:Int) (n:List (EI)) (u187003:Value),v2=.int .i64 ab∧Ae (Bh.l0 kq ab q D E n A=some (r1,r2,r3,r4,r5))∧Ae (kq≤k)∧Ae (Kd.R BT 32 w' w.heap.size (λ_=>True) (.slice G q.length I) q)∧Ae (Kd.S GW 26 w' w.heap.size (λy=>some y≠((.slice G q.length I):Value).ownBlock) u187003 n)∧Ae (Kd.S E2 114 w' w.heap.size (λy=>some y≠((.slice G q.length I):Value).ownBlock) (.slice ag A.length ah) A)∧Ae (w'.heap[l]?=some (.cells #[(.slice none 0 0),.int .i64 0,.bool false,(.slice none 0 0),(.slice none 0 0)] 64 (0,0)))∧Ae (w'.heap[u]?=some (.cells #[(.slice G q.length I),.int .i64 D,.bool E,u187003,(.slice ag A.length ah)] 64 (0,0)))∧Ae (Below w.heap.size w w'))
 case atStart=>exact⟨(1),(([]:List (EI))),(.slice none 0 0),(Cr),H',⟨Nat.le_refl _⟩,⟨by(with_reducible repeat(first|apply Kd.R_alloc|apply Kd.An|apply Kd.As));exact Kd.Aj (IU (g:=u) (Kd.AF ae.o m.o (by decide)) (λ_ d=>d.2) (.slice G q.length I) (.int .i64 D) (.bool E) (.slice none 0 0) (.slice ag A.length ah)) (λ_ d=>trivial)⟩,⟨by first|exact Kd.K2 _ _ _ _ _|exact Kd.N_nil _ _ _ _ _|exact Kd.V_nil _ _ _ _ _|exact Kd.Q_nil _ _ _ _ _|exact Kd.JT _ _ _ _ _⟩,⟨by(with_reducible repeat(first|apply Kd.S_alloc|apply Kd.S_drewN|apply Kd.De));exact Kd.Cu (Kd.BS (p:=⟨u,4,none⟩) (Kd.BS (p:=⟨u,3,none⟩) (Kd.BS (p:=⟨u,2,none⟩) (Kd.BS (p:=⟨u,1,none⟩) (Kd.BS (p:=⟨u,0,none⟩) (Kd.DY aq.o m.o (by decide)) (λ_ d=>d.2) (.slice G q.length I)) (λ_ d=>d.2) (.int .i64 D)) (λ_ d=>d.2) (.bool E)) (λ_ d=>d.2) (.slice none 0 0)) (λ_ d=>d.2) (.slice ag A.length ah)) (λ_ d=>d.1.2)⟩,⟨Dv K.o j.o⟩,⟨Gu m.o⟩,⟨Ad⟩⟩
 clear H';try clear p2
 try clear aX aY aZ a0 a1 aR aT aU aV aW
 obtain⟨ab,n,u187003,rfl,HA,a5,i,a,r,j,m,HB⟩:=hrel;cases gk with
 | zero=>exact absurd HA.o (by simp[Bh.l0])
 | succ k1 =>
  have H:=HA.o
  clear HA
  simp only[Bh.l0]at H
  by_cases aC:ab≤3
  ·rw[if_pos aC]at H
   have a2:decide (ab≤3)=true:=BJ aC
   clear aC
   replace H:=BU H
   obtain⟨⟨M,O,B,z,P,T,ba⟩,aM,H⟩:=H
   try dsimp only at H
   have bd:=a_ aM
   clear aM
   by_cases aJ:n.length<1759218604441
   ·rw[if_pos aJ]at H
    have aN:=a_ aJ
    clear aJ
    obtain⟨ao,an⟩:∃y_:List (EI),y_=(n++[(⟨M,O,B,z,P,T⟩:EI)]):=⟨_,rfl⟩
    replace H:(Bh.l0 k1 (wrap64 (ab+1)) q D E ao A)=some (r1,r2,r3,r4,r5):=by first|(rw[an];with_reducible exact H)|(have au:=(Option.bind_some _ _).symm.trans H;rw[an];with_reducible exact au)|(have au:=(Option.bind_some _ _).symm.trans H;with_reducible exact au)|with_reducible exact H|(rw[an];exact H)|exact H
    have aQ:=a_ an
    clear an
    have H':=a_ H
    clear H
    go_wp2_with(first|((with_reducible refine BN (f:=67) rfl ?_);refine BR 14 Tryd.func67 #[.int .i64 ab] ?_;(with_reducible refine(Ep.calls ab M O B z P T ba _ bd.o).mono ?_);rintro e cY ⟨cV,cW,rfl,aD,aH,Y⟩;refine⟨_,rfl,?_⟩;replace a:=a_ (Kd.Cu (Kd.Jq (Kd.Jq (Kd.Oj (IV a.o) Y) (Kd.BO aD)) (Kd.BO aH)) (λ_ h_=>h_.1));replace r:=a_ (Kd.G0 (IV r.o) (Kd.BO aH) Y);have Z:=a_ (Kd.AN aD (Ab (Ad)));have aa:=a_ (Kd.AN (Kd.DC aH (Kd.DQ (BC i.o))) (Ab (Ad)));replace i:=a_ (Kd.CB (BC i.o) (Kd.BO aH) Y);replace HB:=a_ (BA (Ad) Y);replace j:=a_ (C3 j.o Y);replace m:=a_ (C3 m.o Y);(try clear Y aD aH))|((with_reducible refine Cd (N:=3) rfl ?_);refine CE 3 (#[.int .i64 0,.int .i64 0,.slice none 0 0,.slice none 0 0,.int .i64 0,.int .i64 0]) 26 ?_;intro c hg cO ai Y;have x:=a_ (ai);have bk:=a_ ((by rw[hg];exact(Ab (Ad)):w.heap.size≤c));have bg:=a_ ((by rw[hg];exact(Ab (Ad)):w.heap.size≤c));have aj:=a_ ((by rw[hg];exact Nat.ne_of_lt (AU (g:=l) (o:=.cells #[.slice none 0 0,.int .i64 0,.bool false,.slice none 0 0,.slice none 0 0] 64 (0,0)) (Bp j.o)):l≠c));have av:=a_ ((by rw[hg];exact Nat.ne_of_gt (AU (g:=l) (o:=.cells #[.slice none 0 0,.int .i64 0,.bool false,.slice none 0 0,.slice none 0 0] 64 (0,0)) (Bp j.o)):c≠l));have ak:=a_ ((by rw[hg];exact Nat.ne_of_lt (AU (g:=u) (o:=.cells #[.slice G q.length I,.int .i64 D,.bool E,u187003,.slice ag A.length ah] 64 (0,0)) (Bp m.o)):u≠c));have aw:=a_ ((by rw[hg];exact Nat.ne_of_gt (AU (g:=u) (o:=.cells #[.slice G q.length I,.int .i64 D,.bool E,u187003,.slice ag A.length ah] 64 (0,0)) (Bp m.o)):c≠u));replace i:=a_ (Kd.AZ (BC i.o) Y);replace a:=a_ (Kd.Fy (Kd.JX (IV a.o) c (Nat.le_of_eq hg.symm)) Y);replace r:=a_ (Kd.Fy (IV r.o) Y);replace Z:=a_ (Kd.AZ (BC Z.o) Y);replace aa:=a_ (Kd.AZ (BC aa.o) Y);replace j:=a_ (C3 j.o Y);replace m:=a_ (C3 m.o Y);replace HB:=a_ (BA (Ad) Y);clear Y ai hg;have cG:=av.o;have cK:=aj.o;have cH:=aw.o;have cL:=ak.o;obtain⟨bV,bW,bX,bY,bZ,b6,bl,bm,bn,bo,bp,bq⟩:=Cs x.o;obtain⟨U,X,a6⟩:=Kd.Bg Z.o;subst a6;obtain⟨J,L,a7⟩:=Kd.Bg aa.o;subst a7)|((with_reducible refine CS (t:=26) (p:=3) rfl ?_);refine Cx (t:=26) (p:=3) (v:=?q') (w1:=((((((cO.setCell ⟨c,0,none⟩ (.int .i64 M)).setCell ⟨c,1,none⟩ (.int .i64 O)).setCell ⟨c,2,none⟩ (.slice U B.length X)).setCell ⟨c,3,none⟩ (.slice J z.length L)).setCell ⟨c,4,none⟩ (.int .i64 P)).setCell ⟨c,5,none⟩ (.int .i64 T))) ?hg ?ho ?hn ?hr ?_;(case ho=>rfl);(case hg=>rfl);(case hn=>rfl);(case hr=>first|(go_simp;done)|(go_simp;rfl));intro ar hw;replace i:Ae (Kd.R BT 32 ar w.heap.size (λy=>some y≠(.slice J z.length L:Value).ownBlock) (.slice G q.length I) q):=⟨(by rw[hw];exact(by(with_reducible repeat(first|apply Kd.R_alloc|apply Kd.An|apply Kd.As));exact Kd.Aj (EZ (g:=c) (Kd.AF i.o x.o (by decide)) (λ_ d=>d.2) (.int .i64 M) (.int .i64 O) (.slice U B.length X) (.slice J z.length L) (.int .i64 P) (.int .i64 T)) (λ_ d=>d.1.2)))⟩;replace a:Ae (Kd.S GW 26 ar w.heap.size (λy=>some y≠(.slice G q.length I:Value).ownBlock∧some y≠(.slice U B.length X:Value).ownBlock∧some y≠(.slice J z.length L:Value).ownBlock∧y≠c) u187003 n):=⟨(by rw[hw];exact(by(with_reducible repeat(first|apply Kd.S_alloc|apply Kd.S_drewN|apply Kd.De));exact Kd.Cu (Kd.BS (p:=⟨c,5,none⟩) (Kd.BS (p:=⟨c,4,none⟩) (Kd.BS (p:=⟨c,3,none⟩) (Kd.BS (p:=⟨c,2,none⟩) (Kd.BS (p:=⟨c,1,none⟩) (Kd.BS (p:=⟨c,0,none⟩) (Kd.Cu a.o (λy d=>(⟨d,d.2⟩:_∧y≠c))) (λ_ d=>d.2) (.int .i64 M)) (λ_ d=>d.2) (.int .i64 O)) (λ_ d=>d.2) (.slice U B.length X)) (λ_ d=>d.2) (.slice J z.length L)) (λ_ d=>d.2) (.int .i64 P)) (λ_ d=>d.2) (.int .i64 T)) (λ_ d=>⟨d.1.1.1.1,⟨d.1.1.1.2,⟨d.1.1.2,d.1.2⟩⟩⟩)))⟩;replace r:Ae (Kd.S E2 114 ar w.heap.size (λy=>some y≠(.slice G q.length I:Value).ownBlock∧some y≠(.slice J z.length L:Value).ownBlock) (.slice ag A.length ah) A):=⟨(by rw[hw];exact(by(with_reducible repeat(first|apply Kd.S_alloc|apply Kd.S_drewN|apply Kd.De));exact Kd.Cu (Kd.BS (p:=⟨c,5,none⟩) (Kd.BS (p:=⟨c,4,none⟩) (Kd.BS (p:=⟨c,3,none⟩) (Kd.BS (p:=⟨c,2,none⟩) (Kd.BS (p:=⟨c,1,none⟩) (Kd.BS (p:=⟨c,0,none⟩) (Kd.DY r.o x.o (by decide)) (λ_ d=>d.2) (.int .i64 M)) (λ_ d=>d.2) (.int .i64 O)) (λ_ d=>d.2) (.slice U B.length X)) (λ_ d=>d.2) (.slice J z.length L)) (λ_ d=>d.2) (.int .i64 P)) (λ_ d=>d.2) (.int .i64 T)) (λ_ d=>⟨d.1.1,d.1.2⟩)))⟩;replace Z:Ae (Kd.R Dj 68 ar w.heap.size (λ_=>True) (.slice U B.length X) B):=⟨(by rw[hw];exact(by(with_reducible repeat(first|apply Kd.R_alloc|apply Kd.An|apply Kd.As));exact Kd.Aj (EZ (g:=c) (Kd.AF Z.o x.o (by decide)) (λ_ d=>d.2) (.int .i64 M) (.int .i64 O) (.slice U B.length X) (.slice J z.length L) (.int .i64 P) (.int .i64 T)) (λ_ d=>trivial)))⟩;replace aa:Ae (Kd.R BT 32 ar w.heap.size (λy=>some y≠(.slice G q.length I:Value).ownBlock) (.slice J z.length L) z):=⟨(by rw[hw];exact(by(with_reducible repeat(first|apply Kd.R_alloc|apply Kd.An|apply Kd.As));exact Kd.Aj (EZ (g:=c) (Kd.AF aa.o x.o (by decide)) (λ_ d=>d.2) (.int .i64 M) (.int .i64 O) (.slice U B.length X) (.slice J z.length L) (.int .i64 P) (.int .i64 T)) (λ_ d=>d.1.2)))⟩;replace j:Ae (ar.heap[l]?=some (.cells #[.slice none 0 0,.int .i64 0,.bool false,.slice none 0 0,.slice none 0 0] 64 (0,0))):=⟨(by rw[hw];exact(Dv aj.o j.o))⟩;replace m:Ae (ar.heap[u]?=some (.cells #[.slice G q.length I,.int .i64 D,.bool E,u187003,.slice ag A.length ah] 64 (0,0))):=⟨(by rw[hw];exact(Dv ak.o m.o))⟩;replace x:Ae (ar.heap[c]?=some (.cells #[.int .i64 M,.int .i64 O,.slice U B.length X,.slice J z.length L,.int .i64 P,.int .i64 T] 26 (0,0))):=⟨(by rw[hw];exact(GM x.o))⟩;replace HB:Ae (Below w.heap.size w ar):=⟨(by rw[hw];exact(Ad))⟩;clear hw;have cI:=af.o;have cM:=K.o;obtain⟨b7,b8,b9,b_,ca,br,bu,bw,bx,bz⟩:=Cy m.o;obtain⟨cb,cd,cf,cg,cj,ck,bA,bB,bC,bD,bE,bF⟩:=Cs x.o)|((with_reducible refine Bt (b:=.append) (xs:=#[.tmp 18,.tmp 20]) rfl ?_);at_builtin;refine Kd.JW GW (w0:=w) w.heap.size rfl (.tmp 18) (.tmp 20) 61 26 (.agg #[(.int .i64 0),(.int .i64 0),(.slice none 0 0),(.slice none 0 0),(.int .i64 0),(.int .i64 0)]) 80 rfl Tryd.underlying61 KB rfl (by decide) (by omega) u187003 n (⟨M,O,B,z,P,T⟩:EI) [.int .i64 M,.int .i64 O,.slice U B.length X,.slice J z.length L,.int .i64 P,.int .i64 T] (λy=>some y≠(.slice G q.length I:Value).ownBlock∧y≠c) (λy=>some y=(.slice U B.length X:Value).ownBlock∨some y=(.slice J z.length L:Value).ownBlock) rfl rfl ?aP (λy cF=>cF.elim (λh_=>((Kd.Aj (Fc:=λy=>((λy=>some y≠(.slice G q.length I:Value).ownBlock∧y≠c)) y∧some y≠(u187003:Value).ownBlock) (Kd.AF (Kd.Dd (Kd.Dd (Z.o) (Kd.C9 i.o) (by decide)) (Kd.Dg a.o) (by decide)) x.o (by decide)) (λy d=>⟨⟨d.1.1.2,d.2⟩,d.1.2⟩))).1 y h_.symm) (λh_=>((Kd.Aj (Fc:=λy=>((λy=>some y≠(.slice G q.length I:Value).ownBlock∧y≠c)) y∧some y≠(u187003:Value).ownBlock) (Kd.AF (Kd.Dd (aa.o) (Kd.Dg a.o) (by decide)) x.o (by decide)) (λy d=>⟨⟨d.1.1,d.2⟩,d.1.2⟩))).1 y h_.symm)) ?aF ?aO ?aB ?aS ?aL ?_;(case aP=>exact Ig _ _ _ (⟨M,O,B,z,P,T⟩:EI) (Kd.Aj (Kd.Fx rfl (Kd.Aj (Fc:=λy=>((λy=>some y≠(.slice G q.length I:Value).ownBlock∧y≠c)) y∧some y≠(u187003:Value).ownBlock) (Kd.AF (Kd.Dd (Kd.Dd (Z.o) (Kd.C9 i.o) (by decide)) (Kd.Dg a.o) (by decide)) x.o (by decide)) (λy d=>⟨⟨d.1.1.2,d.2⟩,d.1.2⟩))) (λ_ h_=>Or.inl h_)) (Kd.Aj (Kd.Fx rfl (Kd.Aj (Fc:=λy=>((λy=>some y≠(.slice G q.length I:Value).ownBlock∧y≠c)) y∧some y≠(u187003:Value).ownBlock) (Kd.AF (Kd.Dd (aa.o) (Kd.Dg a.o) (by decide)) x.o (by decide)) (λy d=>⟨⟨d.1.1,d.2⟩,d.1.2⟩))) (λ_ h_=>Or.inr (h_))));(case aB=>exact(Ad));(case aF=>exact(λy d=>⟨Kd.EA (Kd.DQ (BC i.o)) y d,Kd.EB (g:=c) (o:=.cells #[.int .i64 M,.int .i64 O,.slice U B.length X,.slice J z.length L,.int .i64 P,.int .i64 T] 26 (0,0)) (Bp x.o) y d⟩));(case aO=>exact(by(with_reducible repeat(first|apply Kd.S_alloc|apply Kd.S_drewN|apply Kd.De));exact Kd.Cu a.o (λy d=>⟨⟨d.1,d.2.2.2⟩,λe_=>e_.elim (λh_=>d.2.1 h_) (λh_=>d.2.2.1 h_)⟩)));(case aS=>exact(Ab (Ad)));(case aL=>have:=aN.o;omega);intro cX cZ ho Y hg cE;rw[<-aQ.o]at ho;replace i:=a_ (Kd.Df (BC i.o) (Kd.Dg (IV a.o)) (by decide) hg);replace r:=a_ (Kd.Jp (IV r.o) (Kd.Dg (IV a.o)) (by decide) hg);replace j:=a_ (AJ (g:=l) (o:=.cells #[.slice none 0 0,.int .i64 0,.bool false,.slice none 0 0,.slice none 0 0] 64 (0,0)) (Bp j.o) hg (Kd.JY a.o j.o (by decide)));replace m:=a_ (AJ (g:=u) (o:=.cells #[.slice G q.length I,.int .i64 D,.bool E,u187003,.slice ag A.length ah] 64 (0,0)) (Bp m.o) hg (Kd.JY a.o m.o (by decide)));replace x:=a_ (AJ (g:=c) (o:=.cells #[.int .i64 M,.int .i64 O,.slice U B.length X,.slice J z.length L,.int .i64 P,.int .i64 T] 26 (0,0)) (Bp x.o) hg (Kd.Mk a.o (λ_ d=>d.2.2.2)));replace HB:=a_ (Y);have aE:=a_ (ho);clear a Z aa;clear ho Y hg cE;obtain⟨ax,az,a8⟩:=Kd.Ej aE.o;subst a8;obtain⟨cl,cm,cn,cp,cq,bG,bH,bI,bJ,bK⟩:=Cy m.o))
    go_roundg k1
    case measure=>have:=a5.o;omega
    case rel=>exact⟨(wrap64 (ab+1)),(ao),(.slice ax ao.length az),(Cr),H',⟨by have:=a5.o;omega⟩,⟨by(with_reducible repeat(first|apply Kd.R_alloc|apply Kd.An|apply Kd.As));exact Kd.Aj (Kd.CQ (p:=⟨u,3,none⟩) (Kd.AF i.o m.o (by decide)) (λ_ d=>d.2) (.slice ax ao.length az)) (λ_ d=>trivial)⟩,⟨by(with_reducible repeat(first|apply Kd.S_alloc|apply Kd.S_drewN|apply Kd.De));exact Kd.Cu (Kd.BS (p:=⟨u,3,none⟩) (Kd.DY aE.o m.o (by decide)) (λ_ d=>d.2) (.slice ax ao.length az)) (λ_ d=>d.1.1)⟩,⟨by(with_reducible repeat(first|apply Kd.S_alloc|apply Kd.S_drewN|apply Kd.De));exact Kd.Cu (Kd.BS (p:=⟨u,3,none⟩) (Kd.DY r.o m.o (by decide)) (λ_ d=>d.2) (.slice ax ao.length az)) (λ_ d=>d.1.1)⟩,⟨Dv K.o j.o⟩,⟨by(with_reducible repeat(first|refine E6 ?_ _|refine DA ?_|refine Eb ?_ _));refine Bw (cs:=#[.slice G q.length I,.int .i64 D,.bool E,u187003,.slice ag A.length ah]) ?_ 3 _ rfl;(with_reducible repeat(first|refine E6 ?_ _|refine DA ?_|refine Eb ?_ _));exact m.o⟩,⟨Ad⟩⟩
   ·rw[if_neg aJ]at H
    exact absurd H (by simp)
  ·rw[if_neg aC]at H
   have a2:decide (ab≤3)=false:=C1 aC
   clear aC
   simp only[Option.some.injEq,Prod.mk.injEq]at H
   obtain⟨rfl,rfl,rfl,rfl,rfl⟩:=H
   have cJ:=af.o
   have cN:=K.o
   obtain⟨cr,ct,cu,cv,cw,bL,bM,bN,bO,bP⟩:=Cy (W:=wr) m.o
   obtain⟨cx,cy,cz,cA,cB,bQ,bR,bS,bT,bU⟩:=Cy (W:=wr) j.o
   obtain⟨ay,aA,a9⟩:=Kd.Ej a.o
   subst a9
   go_wp2
   refine bodyPost_ret (results_cell_row rfl _ _ l 64 #[.slice G q.length I,.int .i64 D,.bool E,.slice ay n.length aA,.slice ag A.length ah] (0,0) _ rfl (Gu j.o) Tryd.underlying64 rfl (by kernel_rfl)) rfl ?_
   exact⟨_,_,_,C_,by(with_reducible repeat(first|apply Kd.R_alloc|apply Kd.An|apply Kd.As));exact Kd.Aj (IU (g:=l) (Kd.AF i.o j.o (by decide)) (λ_ d=>d.2) (.slice G q.length I) (.int .i64 D) (.bool E) (.slice ay n.length aA) (.slice ag A.length ah)) (λ_ d=>trivial),by(with_reducible repeat(first|apply Kd.S_alloc|apply Kd.S_drewN|apply Kd.De));exact Kd.Cu (Kd.BS (p:=⟨l,4,none⟩) (Kd.BS (p:=⟨l,3,none⟩) (Kd.BS (p:=⟨l,2,none⟩) (Kd.BS (p:=⟨l,1,none⟩) (Kd.BS (p:=⟨l,0,none⟩) (Kd.DY a.o j.o (by decide)) (λ_ d=>d.2) (.slice G q.length I)) (λ_ d=>d.2) (.int .i64 D)) (λ_ d=>d.2) (.bool E)) (λ_ d=>d.2) (.slice ay n.length aA)) (λ_ d=>d.2) (.slice ag A.length ah)) (λ_ d=>d.1),by(with_reducible repeat(first|apply Kd.S_alloc|apply Kd.S_drewN|apply Kd.De));exact Kd.Cu (Kd.BS (p:=⟨l,4,none⟩) (Kd.BS (p:=⟨l,3,none⟩) (Kd.BS (p:=⟨l,2,none⟩) (Kd.BS (p:=⟨l,1,none⟩) (Kd.BS (p:=⟨l,0,none⟩) (Kd.DY r.o j.o (by decide)) (λ_ d=>d.2) (.slice G q.length I)) (λ_ d=>d.2) (.int .i64 D)) (λ_ d=>d.2) (.bool E)) (λ_ d=>d.2) (.slice ay n.length aA)) (λ_ d=>d.2) (.slice ag A.length ah)) (λ_ d=>d.1),Ad⟩
def Bf.f(c:Int):Option (Bool):=(Aq.f (wrap64 (Int.tdiv c 10)) 1 3).bind λa=>(if a=true then((Aq.f (Int.tmod c 10) 1 6).bind λb=>(some b))else(some false))
theorem Bf.calls(b:Int)(r:Bool)(w:World)(h:Bf.f b=some r) :
  Calls Tryd.prog 31 #[.int .i64 b] w λe w'=>e=.returned (.bool r)∧AA w w':=by
 unfold Bf.f at h;have H:=h;clear h;replace H:=BU H;obtain⟨g,c,H⟩:=H;try dsimp only at H
 have i:=a_ c;clear c;by_cases c3:g=true
 ·subst c3;have H1:((Aq.f (Int.tmod b 10) 1 6).bind λa=>(some a))=some r:=by rw[if_pos rfl]at H;exact H
  clear H;have H:=H1;clear H1;replace H:=BU H;obtain⟨a,d,H⟩:=H;try dsimp only at H
  have j:=a_ d;clear d;obtain rfl:=C5 H;go_enter Tryd.func31,Tryd.ntmps31;go_wp2_with(first|((with_reducible refine BN (f:=20) rfl ?_);refine BR 5 Tryd.func20 #[.int .i64 (wrap64 (Int.tdiv b 10)),.int .i64 1,.int .i64 3] ?_;(with_reducible refine(Aq.calls (wrap64 (Int.tdiv b 10)) 1 3 true _ i.o).mono ?_);rintro e w' ⟨rfl,⟨nd,rfl⟩⟩;refine⟨_,rfl,?_⟩)|(go_at_call 20;(with_reducible refine(Aq.calls (Int.tmod b 10) 1 6 a _ j.o).mono ?_);rintro e w' ⟨rfl,⟨nd,rfl⟩⟩));go_ret;exact⟨Cr,by repeat(first|exact AA.refl _|apply AA.step)⟩
 replace c3:=Bool.eq_false_iff.mpr c3;subst c3;have H1:(some false)=some r:=by rw[if_neg (show¬ (false=true) by decide)]at H;exact H
 clear H;have H:=H1;clear H1;obtain rfl:=C5 H;go_enter Tryd.func31,Tryd.ntmps31;go_wp2_with(first|((with_reducible refine BN (f:=20) rfl ?_);refine BR 5 Tryd.func20 #[.int .i64 (wrap64 (Int.tdiv b 10)),.int .i64 1,.int .i64 3] ?_;(with_reducible refine(Aq.calls (wrap64 (Int.tdiv b 10)) 1 3 false _ i.o).mono ?_);rintro e w' ⟨rfl,⟨nd,rfl⟩⟩;refine⟨_,rfl,?_⟩));go_ret;exact⟨Cr,by repeat(first|exact AA.refl _|apply AA.step)⟩
def Be.l0:Nat->List (AM)->Int->Int->Int->Option (Int)
 | 0,_,_,_,_=>none
 | k+1,b,c,d,a=>if a<(b.length:Int)then(if 0≤a then(if((Aa b a).f0)=c then(Be.l0 k b c (wrap64 (d+1)) (wrap64 (a+1)))else(Be.l0 k b c d (wrap64 (a+1))))else(none))else(some d)
def Be.f(k:Nat)(l0:List (AM))(a:Int):Option (Int):=Be.l0 k l0 a 0 0
theorem Be.calls(k:Nat)(G:Option Addr)(I:Nat)(l0:List (AM))(t:Int)(r:Int)(w:World)(D:Kd.C BT w G l0.length l0)(B:l0.length≤I)(h:Be.f k l0 t=some r) :
  Calls Tryd.prog 63 #[.slice G l0.length I,.int .i64 t] w λe w'=>e=.returned (.int .i64 r)∧AA w w':=by
 have x:=a_ D;have M:=a_ B;clear D B;unfold Be.f at h;have H:=h;clear h;have v:=a_ H;clear H;go_enter Tryd.func63,Tryd.ntmps63;go_wp2;go_loopg [5,6] k (λL O v6 w'=>∃(d:Int) (a:Int),O=.int .i64 d∧v6=.int .i64 a∧Ae (Be.l0 L l0 t d a=some r)∧Ae (L≤k)∧AA w w')
 case atStart=>exact⟨(0),(0),(Cr),(Cr),v,⟨Nat.le_refl _⟩,by repeat(first|exact AA.refl _|apply AA.step)⟩
 clear v;try clear p2
 obtain⟨d,a,rfl,rfl,E,q,⟨P,rfl⟩⟩:=hrel;cases gk with
 | zero=>exact absurd E.o (by simp[Be.l0])
 | succ K =>
  have H:=E.o
  clear E
  simp only[Be.l0]at H
  by_cases c3:a<(l0.length:Int)
  ·rw[if_pos c3]at H
   have y:decide (a<(l0.length:Int))=true:=BJ c3
   clear c3
   by_cases c4:0≤a
   ·rw[if_pos c4]at H
    have J:decide (0≤a)=true:=BJ c4
    clear c4
    by_cases c5:((Aa l0 a).f0)=t
    ·rw[if_pos c5]at H
     have z:(((Aa l0 a).f0)==t)=true:=beq_iff_eq.mpr c5
     have A:(((Aa l0 a).f0) != t)=false:=Ff c5
     clear c5
     have v:=a_ H
     clear H
     have b:0≤(a:Int):=Bu
     have c:a<(l0.length:Int):=Bu
     obtain⟨u,g,i,j,l,m,n,o,p⟩:=CD x.o a b c
     cases g
     replace b:=eq_true b
     replace c:=eq_true c
     go_wp2
     go_roundg K
     case measure=>have:=q.o;omega
     case rel=>exact⟨(wrap64 (d+1)),(wrap64 (a+1)),(Cr),(Cr),v,⟨by have:=q.o;omega⟩,by repeat(first|exact AA.refl _|apply AA.step)⟩
    ·rw[if_neg c5]at H
     have z:(((Aa l0 a).f0)==t)=false:=Dq c5
     have A:(((Aa l0 a).f0) != t)=true:=bne_iff_ne.mpr c5
     have v:=a_ H
     clear H
     have b:0≤(a:Int):=Bu
     have c:a<(l0.length:Int):=Bu
     obtain⟨u,g,i,j,l,m,n,o,p⟩:=CD x.o a b c
     cases g
     replace b:=eq_true b
     replace c:=eq_true c
     go_wp2
     go_roundg K
     case measure=>have:=q.o;omega
     case rel=>exact⟨(d),(wrap64 (a+1)),(Cr),(Cr),v,⟨by have:=q.o;omega⟩,by repeat(first|exact AA.refl _|apply AA.step)⟩
   ·rw[if_neg c4]at H
    exact absurd H (by simp)
  ·rw[if_neg c3]at H
   have y:decide (a<(l0.length:Int))=false:=C1 c3
   clear c3
   obtain rfl:=C5 H
   go_wp2
   go_ret
   exact⟨Cr,by repeat(first|exact AA.refl _|apply AA.step)⟩
def Bs.l0:Nat->ByteArray->Int->Option (Bool)
 | 0,_,_=>none
 | k+1,b,c=>if c<(b.size:Int)then(if 0≤c then((Aq.f (wrap64 (bt b c)) 97 100).bind λa=>(if a=true then(Bs.l0 k b (wrap64 (c+1)))else(some false)))else(none))else(some (decide ((b.size:Int)≤4)))
def Bs.f(k:Nat)(a:ByteArray):Option (Bool):=Bs.l0 k a 0
theorem Bs.calls(k:Nat)(b:ByteArray)(r:Bool)(w:World)(h:Bs.f k b=some r) :
  Calls Tryd.prog 32 #[.string b] w λe w'=>e=.returned (.bool r)∧AA w w':=by
 unfold Bs.f at h;have H:=h;clear h;have m:=a_ H;clear H;go_enter Tryd.func32,Tryd.ntmps32;go_wp2;go_loopg [3] k (λu v3 w'=>∃(a:Int),v3=.int .i64 a∧Ae (Bs.l0 u b a=some r)∧Ae (u≤k)∧AA w w')
 case atStart=>exact⟨(0),(Cr),m,⟨Nat.le_refl _⟩,by repeat(first|exact AA.refl _|apply AA.step)⟩
 clear m;obtain⟨a,rfl,n,d,⟨v,rfl⟩⟩:=hrel;cases gk with
 | zero=>exact absurd n.o (by simp[Bs.l0])
 | succ t =>
  have H:=n.o
  clear n
  simp only[Bs.l0]at H
  by_cases c2:a<(b.size:Int)
  ·rw[if_pos c2]at H
   have g:decide (a<(b.size:Int))=true:=BJ c2
   clear c2
   by_cases c3:0≤a
   ·rw[if_pos c3]at H
    have q:decide (0≤a)=true:=BJ c3
    clear c3
    replace H:=BU H
    obtain⟨l,c,H⟩:=H
    try dsimp only at H
    have p:=a_ c
    clear c
    by_cases c6:l=true
    ·subst c6
     have H1:(Bs.l0 t b (wrap64 (a+1)))=some r:=by rw[if_pos rfl]at H;exact H
     clear H
     have H:=H1
     clear H1
     have m:=a_ H
     clear H
     have i:0≤(a:Int):=Bu
     have j:a<(b.size:Int):=Bu
     have o:=Iq b a
     replace i:=eq_true i
     replace j:=eq_true j
     go_wp2_with(first|((with_reducible refine BN (f:=20) rfl ?_);refine BR 14 Tryd.func20 #[.int .i64 (wrap64 (bt b a)),.int .i64 97,.int .i64 100] ?_;(with_reducible refine(Aq.calls (wrap64 (bt b a)) 97 100 true _ p.o).mono ?_);rintro e w' ⟨rfl,⟨nd,rfl⟩⟩;refine⟨_,rfl,?_⟩))
     go_roundg t
     case measure=>have:=d.o;omega
     case rel=>exact⟨(wrap64 (a+1)),(Cr),m,⟨by have:=d.o;omega⟩,by repeat(first|exact AA.refl _|apply AA.step)⟩
    ·replace c6:=Bool.eq_false_iff.mpr c6
     subst c6
     have H1:(some false)=some r:=by rw[if_neg (show¬ (false=true) by decide)]at H;exact H
     clear H
     have H:=H1
     clear H1
     obtain rfl:=C5 H
     have i:0≤(a:Int):=Bu
     have j:a<(b.size:Int):=Bu
     have o:=Iq b a
     replace i:=eq_true i
     replace j:=eq_true j
     go_wp2_with(first|((with_reducible refine BN (f:=20) rfl ?_);refine BR 14 Tryd.func20 #[.int .i64 (wrap64 (bt b a)),.int .i64 97,.int .i64 100] ?_;(with_reducible refine(Aq.calls (wrap64 (bt b a)) 97 100 false _ p.o).mono ?_);rintro e w' ⟨rfl,⟨nd,rfl⟩⟩;refine⟨_,rfl,?_⟩))
     go_ret
     exact⟨Cr,by repeat(first|exact AA.refl _|apply AA.step)⟩
   ·rw[if_neg c3]at H
    exact absurd H (by simp)
  ·rw[if_neg c2]at H
   have g:decide (a<(b.size:Int))=false:=C1 c2
   clear c2
   obtain rfl:=C5 H
   go_wp2
   go_ret
   exact⟨Cr,by repeat(first|exact AA.refl _|apply AA.step)⟩
def Bd.l0:Nat->List (Ba)->Int->Int->Option (Int)
 | 0,_,_,_=>none
 | k+1,b,c,a=>if a<(b.length:Int)then(if 0≤a then(if((Ag b a).f0)=c then(some a)else(Bd.l0 k b c (wrap64 (a+1))))else(none))else(some (-1))
def Bd.f(k:Nat)(l0:List (Ba))(a:Int):Option (Int):=Bd.l0 k l0 a 0
theorem Bd.calls(k:Nat)(z:Option Addr)(A:Nat)(l0:List (Ba))(l:Int)(r:Int)(w:World)(v:Kd.C Dj w z l0.length l0)(u:l0.length≤A)(h:Bd.f k l0 l=some r) :
  Calls Tryd.prog 54 #[.slice z l0.length A,.int .i64 l] w λe w'=>e=.returned (.int .i64 r)∧AA w w':=by
 have o:=a_ v;have E:=a_ u;clear v u;unfold Bd.f at h;have H:=h;clear h;have x:=a_ H;clear H;go_enter Tryd.func54,Tryd.ntmps54;go_wp2;go_loopg [5] k (λD I w'=>∃(a:Int),I=.int .i64 a∧Ae (Bd.l0 D l0 l a=some r)∧Ae (D≤k)∧AA w w')
 case atStart=>exact⟨(0),(Cr),x,⟨Nat.le_refl _⟩,by repeat(first|exact AA.refl _|apply AA.step)⟩
 clear x;try clear p2
 obtain⟨a,rfl,y,n,⟨J,rfl⟩⟩:=hrel;cases gk with
 | zero=>exact absurd y.o (by simp[Bd.l0])
 | succ G =>
  have H:=y.o
  clear y
  simp only[Bd.l0]at H
  by_cases c3:a<(l0.length:Int)
  ·rw[if_pos c3]at H
   have p:decide (a<(l0.length:Int))=true:=BJ c3
   clear c3
   by_cases c4:0≤a
   ·rw[if_pos c4]at H
    have B:decide (0≤a)=true:=BJ c4
    clear c4
    by_cases c5:((Ag l0 a).f0)=l
    ·rw[if_pos c5]at H
     have q:(((Ag l0 a).f0)==l)=true:=beq_iff_eq.mpr c5
     have t:(((Ag l0 a).f0) != l)=false:=Ff c5
     clear c5
     obtain rfl:=C5 H
     have b:0≤(a:Int):=Bu
     have c:a<(l0.length:Int):=Bu
     obtain⟨m,d,g,i,j⟩:=BV o.o a b c
     cases d
     replace b:=eq_true b
     replace c:=eq_true c
     go_wp2
     go_ret
     exact⟨Cr,by repeat(first|exact AA.refl _|apply AA.step)⟩
    ·rw[if_neg c5]at H
     have q:(((Ag l0 a).f0)==l)=false:=Dq c5
     have t:(((Ag l0 a).f0) != l)=true:=bne_iff_ne.mpr c5
     have x:=a_ H
     clear H
     have b:0≤(a:Int):=Bu
     have c:a<(l0.length:Int):=Bu
     obtain⟨m,d,g,i,j⟩:=BV o.o a b c
     cases d
     replace b:=eq_true b
     replace c:=eq_true c
     go_wp2
     go_roundg G
     case measure=>have:=n.o;omega
     case rel=>exact⟨(wrap64 (a+1)),(Cr),x,⟨by have:=n.o;omega⟩,by repeat(first|exact AA.refl _|apply AA.step)⟩
   ·rw[if_neg c4]at H
    exact absurd H (by simp)
  ·rw[if_neg c3]at H
   have p:decide (a<(l0.length:Int))=false:=C1 c3
   clear c3
   obtain rfl:=C5 H
   go_wp2
   go_ret
   exact⟨Cr,by repeat(first|exact AA.refl _|apply AA.step)⟩
def Br.l0:Nat->List (Ba)->Int->Int->Option (Int)
 | 0,_,_,_=>none
 | k+1,b,c,a=>if a<(b.length:Int)then(if 0≤a then(if 0≤c then(if c<(b.length:Int)then(if((Ag b a).f1)>((Ag b c).f1)then(Br.l0 k b c (wrap64 (a+1)))else(some a))else(none))else(none))else(none))else(some a)
def Br.f(k:Nat)(l0:List (Ba))(a:Int):Option (Int):=Br.l0 k l0 a (wrap64 (a+1))
theorem Br.calls(k:Nat)(I:Option Addr)(J:Nat)(l0:List (Ba))(i:Int)(r:Int)(w:World)(D:Kd.C Dj w I l0.length l0)(B:l0.length≤J)(h:Br.f k l0 i=some r) :
  Calls Tryd.prog 55 #[.slice I l0.length J,.int .i64 i] w λe w'=>e=.returned (.int .i64 r)∧AA w w':=by
 have x:=a_ D;have P:=a_ B;clear D B;unfold Br.f at h;have H:=h;clear h;have E:=a_ H;clear H;go_enter Tryd.func55,Tryd.ntmps55;go_wp2;repeat(go_quiet(fail);try go_wp2)
 go_loopg [5] k (λO U w'=>∃(a:Int),U=.int .i64 a∧Ae (Br.l0 O l0 i a=some r)∧Ae (O≤k)∧AA w w')
 case atStart=>exact⟨(wrap64 (i+1)),(Cr),E,⟨Nat.le_refl _⟩,by repeat(first|exact AA.refl _|apply AA.step)⟩
 clear E;try clear p2
 obtain⟨a,rfl,G,y,⟨W,rfl⟩⟩:=hrel;cases gk with
 | zero=>exact absurd G.o (by simp[Br.l0])
 | succ T =>
  have H:=G.o
  clear G
  simp only[Br.l0]at H
  by_cases c3:a<(l0.length:Int)
  ·rw[if_pos c3]at H
   have z:decide (a<(l0.length:Int))=true:=BJ c3
   clear c3
   by_cases c4:0≤a
   ·rw[if_pos c4]at H
    have K:decide (0≤a)=true:=BJ c4
    clear c4
    by_cases c5:0≤i
    ·rw[if_pos c5]at H
     have L:decide (0≤i)=true:=BJ c5
     clear c5
     by_cases c6:i<(l0.length:Int)
     ·rw[if_pos c6]at H
      have M:decide (i<(l0.length:Int))=true:=BJ c6
      clear c6
      by_cases c7:((Ag l0 a).f1)>((Ag l0 i).f1)
      ·rw[if_pos c7]at H
       have A:decide (((Ag l0 i).f1)<((Ag l0 a).f1))=true:=BJ c7
       clear c7
       have E:=a_ H
       clear H
       have b:0≤(a:Int):=Bu
       have d:a<(l0.length:Int):=Bu
       obtain⟨j,m,o,p,q⟩:=BV x.o a b d
       cases m
       replace b:=eq_true b
       replace d:=eq_true d
       have c:0≤(i:Int):=Bu
       have g:i<(l0.length:Int):=Bu
       obtain⟨l,n,t,u,v⟩:=BV x.o i c g
       obtain rfl:j=l:=(by injection n)
       replace c:=eq_true c
       replace g:=eq_true g
       go_wp2
       repeat(go_quiet(fail);try go_wp2)
       go_roundg T
       case measure=>have:=y.o;omega
       case rel=>exact⟨(wrap64 (a+1)),(Cr),E,⟨by have:=y.o;omega⟩,by repeat(first|exact AA.refl _|apply AA.step)⟩
      ·rw[if_neg c7]at H
       have A:decide (((Ag l0 i).f1)<((Ag l0 a).f1))=false:=C1 c7
       clear c7
       obtain rfl:=C5 H
       have b:0≤(a:Int):=Bu
       have d:a<(l0.length:Int):=Bu
       obtain⟨j,m,o,p,q⟩:=BV x.o a b d
       cases m
       replace b:=eq_true b
       replace d:=eq_true d
       have c:0≤(i:Int):=Bu
       have g:i<(l0.length:Int):=Bu
       obtain⟨l,n,t,u,v⟩:=BV x.o i c g
       obtain rfl:j=l:=(by injection n)
       replace c:=eq_true c
       replace g:=eq_true g
       go_wp2
       repeat(go_quiet(fail);try go_wp2)
       go_ret
       exact⟨Cr,by repeat(first|exact AA.refl _|apply AA.step)⟩
     ·rw[if_neg c6]at H
      exact absurd H (by simp)
    ·rw[if_neg c5]at H
     exact absurd H (by simp)
   ·rw[if_neg c4]at H
    exact absurd H (by simp)
  ·rw[if_neg c3]at H
   have z:decide (a<(l0.length:Int))=false:=C1 c3
   clear c3
   obtain rfl:=C5 H
   go_wp2
   repeat(go_quiet(fail);try go_wp2)
   go_ret
   exact⟨Cr,by repeat(first|exact AA.refl _|apply AA.step)⟩
def BD.l0:Nat->List (Ba)->List Int->Int->Int->Option (List Int)
 | 0,_,_,_,_=>none
 | k+1,a,e,c,b=>(Br.f k a c).bind λd=>(if b<d then(if 0≤b then(if b<(a.length:Int)then(if 0≤c then(if c<(a.length:Int)then(if((Ag a b).f1)=(wrap64 (((Ag a c).f1)+1))then(if e.length<17592186044416 then(BD.l0 k a (e++[(Ag a b).f0]) c (wrap64 (b+1)))else(none))else(BD.l0 k a e c (wrap64 (b+1))))else(none))else(none))else(none))else(none))else(some e))
def BD.f(k:Nat)(l0:List (Ba))(c:Int):Option (List Int):=(some (([]:List Int):List Int)).bind λb=>((Bd.f k l0 c).bind λa=>(if a<0 then(some b)else(BD.l0 k l0 b a (wrap64 (a+1)))))
theorem BD.calls(k:Nat)(A0:Option Addr)(c0:Nat)(l0:List (Ba))(a1:Int)(r:List Int)(w:World)(aC:Kd.C Dj w A0 l0.length l0)(aA:l0.length≤c0)(h:BD.f k l0 a1=some r) :
  Calls Tryd.prog 43 #[.slice A0 l0.length c0,.int .i64 a1] w λe w'=>∃aD:Value,e=.returned (aD)∧Kd.R (Kd.int .i64) 3 w' w.heap.size (λ_=>True) aD r∧Below w.heap.size w w':=by
 have y:=a_ aC;have O:=a_ aA;clear aC aA;have HB:=a_ (Below.refl w.heap.size w);unfold BD.f at h;have H:=h;clear h;obtain⟨ah,L⟩:∃y_:List Int,y_=(([]:List Int)):=⟨_,rfl⟩
 replace H:((Bd.f k l0 a1).bind λc=>(if c<0 then(some ah)else(BD.l0 k l0 ah c (wrap64 (c+1)))))=some r:=by first|(rw[L];with_reducible exact H)|(have U:=(Option.bind_some _ _).symm.trans H;rw[L];with_reducible exact U)|(have U:=(Option.bind_some _ _).symm.trans H;with_reducible exact U)|with_reducible exact H|(rw[L];exact H)|exact H
 have P:=a_ L;clear L;replace H:=BU H;obtain⟨c,ay,H⟩:=H;try dsimp only at H
 have A3:=a_ ay;clear ay;by_cases c4:c<0
 ·rw[if_pos c4]at H;have aq:decide (c<0)=true:=BJ c4;clear c4;obtain rfl:=C5 H;go_enter Tryd.func43,Tryd.ntmps43;go_wp2_with(first|((with_reducible refine Cd (N:=8) rfl ?_);refine Kd.DD (Kd.int .i64) _ 3 ?hg (N:=8) ?hd (xs:=([]:List Int)) (inner:=[]) (ok:=λ_=>True) (okp:=λ_=>True) ?hr ?hp (λ_ hk=>hk) trivial (Below.refl _ _) (Nat.le_refl _) (by simp) ?_;(case hd=>rfl);(case hg=>rfl);(case hr=>first|(go_simp;done)|(go_simp;rfl));(case hp=>exact(Bi.none _ _));intro aE w5 af hb Du ab;clear Du ab;(first|rw[<-P.o]at af|(simp only[Int.reduceToNat]at af;rw[<-P.o]at af));have W:=a_ (Kd.AN af (Ab (Ad)));replace HB:=a_ (BA (Ad) hb);clear hb af)|(go_at_call 54;(with_reducible refine(Bd.calls k _ _ l0 a1 c _ ?q' ?z' A3.o).mono ?_);(case q'=>exact Gt y.o);(case z'=>exact O.o);rintro e w' ⟨rfl,⟨nd,rfl⟩⟩;(try first|exact⟨rfl,_,World.drewN_drewN _ _ _⟩|exact⟨rfl,_,Eq.trans (World.drewN_drewN _ _ _) (congrArg (World.drewN _) (Nat.add_assoc _ _ _))⟩)));go_ret;exact⟨_,C_,by(with_reducible repeat(first|apply Kd.R_alloc|apply Kd.An|apply Kd.As));exact W.o,Ad⟩
 rw[if_neg c4]at H;have aq:decide (c<0)=false:=C1 c4;clear c4;have H':=a_ H;clear H;go_enter Tryd.func43,Tryd.ntmps43;go_wp2_with(first|((with_reducible refine Cd (N:=8) rfl ?_);refine Kd.DD (Kd.int .i64) _ 3 ?hg (N:=8) ?hd (xs:=([]:List Int)) (inner:=[]) (ok:=λ_=>True) (okp:=λ_=>True) ?hr ?hp (λ_ hk=>hk) trivial (Below.refl _ _) (Nat.le_refl _) (by simp) ?_;(case hd=>rfl);(case hg=>rfl);(case hr=>first|(go_simp;done)|(go_simp;rfl));(case hp=>exact(Bi.none _ _));intro aE w7 ag hb Du ab;clear Du ab;(first|rw[<-P.o]at ag|(simp only[Int.reduceToNat]at ag;rw[<-P.o]at ag));have W:=a_ (Kd.AN ag (Ab (Ad)));replace HB:=a_ (BA (Ad) hb);clear hb ag)|(go_at_call 54;(with_reducible refine(Bd.calls k _ _ l0 a1 c _ ?q' ?z' A3.o).mono ?_);(case q'=>exact Gt y.o);(case z'=>exact O.o);rintro e w' ⟨rfl,⟨nd,rfl⟩⟩;(try first|exact⟨rfl,_,World.drewN_drewN _ _ _⟩|exact⟨rfl,_,Eq.trans (World.drewN_drewN _ _ _) (congrArg (World.drewN _) (Nat.add_assoc _ _ _))⟩)));go_loopg [5,7] k (λkq v5 v7 w'=>∃(I:List Int) (a:Int),v7=.int .i64 a∧Ae (BD.l0 kq l0 I c a=some r)∧Ae (kq≤k)∧Ae (Kd.R (Kd.int .i64) 3 w' w.heap.size (λ_=>True) v5 I)∧Ae (Below w.heap.size w w'))
 case atStart=>exact⟨(ah),(wrap64 (c+1)),(Cr),H',⟨Nat.le_refl _⟩,⟨by(with_reducible repeat(first|apply Kd.R_alloc|apply Kd.An|apply Kd.As));exact W.o⟩,⟨Ad⟩⟩
 clear H';try clear p2
 try clear c4
 try clear aq
 obtain⟨I,a,rfl,HA,ai,J,HB⟩:=hrel;cases gk with
 | zero=>exact absurd HA.o (by simp[BD.l0])
 | succ k1 =>
  have H:=HA.o
  clear HA
  simp only[BD.l0]at H
  replace H:=BU H
  obtain⟨G,az,H⟩:=H
  try dsimp only at H
  have A9:=a_ az
  clear az
  by_cases Dr:a<G
  ·rw[if_pos Dr]at H
   have av:decide (a<G)=true:=BJ Dr
   clear Dr
   by_cases aj:0≤a
   ·rw[if_pos aj]at H
    have aH:decide (0≤a)=true:=BJ aj
    clear aj
    by_cases ak:a<(l0.length:Int)
    ·rw[if_pos ak]at H
     have aI:decide (a<(l0.length:Int))=true:=BJ ak
     clear ak
     by_cases al:0≤c
     ·rw[if_pos al]at H
      have aJ:decide (0≤c)=true:=BJ al
      clear al
      by_cases an:c<(l0.length:Int)
      ·rw[if_pos an]at H
       have aK:decide (c<(l0.length:Int))=true:=BJ an
       clear an
       by_cases aa:((Ag l0 a).f1)=(wrap64 (((Ag l0 c).f1)+1))
       ·rw[if_pos aa]at H
        have aw:(((Ag l0 a).f1)==(wrap64 (((Ag l0 c).f1)+1)))=true:=beq_iff_eq.mpr aa
        have ax:(((Ag l0 a).f1) != (wrap64 (((Ag l0 c).f1)+1)))=false:=Ff aa
        clear aa
        by_cases ao:I.length<17592186044416
        ·rw[if_pos ao]at H
         have Y:=a_ ao
         clear ao
         obtain⟨au,M⟩:∃y_:List Int,y_=(I++[(Ag l0 a).f0]):=⟨_,rfl⟩
         replace H:(BD.l0 k1 l0 au c (wrap64 (a+1)))=some r:=by first|(rw[M];with_reducible exact H)|(have U:=(Option.bind_some _ _).symm.trans H;rw[M];with_reducible exact U)|(have U:=(Option.bind_some _ _).symm.trans H;with_reducible exact U)|with_reducible exact H|(rw[M];exact H)|exact H
         have Z:=a_ M
         clear M
         have H':=a_ H
         clear H
         go_wp2_with(first|(go_at_call 55;(with_reducible refine(Br.calls k1 _ _ l0 c G _ ?q' ?z' A9.o).mono ?_);(case q'=>exact Gt y.o);(case z'=>exact O.o);rintro e w' ⟨rfl,⟨nd,rfl⟩⟩;(try first|exact⟨rfl,_,World.drewN_drewN _ _ _⟩|exact⟨rfl,_,Eq.trans (World.drewN_drewN _ _ _) (congrArg (World.drewN _) (Nat.add_assoc _ _ _))⟩);have n:0≤(a:Int):=Bu;have p:a<(l0.length:Int):=Bu;obtain⟨t,A,d,g,i⟩:=BV y.o a n p;cases A;replace d:=(Au HB.o d:);replace g:=(Au HB.o g:);replace i:=(Au HB.o i:);replace n:=eq_true n;replace p:=eq_true p;have o:0≤(c:Int):=Bu;have q:c<(l0.length:Int):=Bu;obtain⟨z,B,j,l,m⟩:=BV y.o c o q;obtain rfl:t=z:=(by injection B);replace j:=(Au HB.o j:);replace l:=(Au HB.o l:);replace m:=(Au HB.o m:);replace o:=eq_true o;replace q:=eq_true q;have D:0≤(a:Int):=Bu;have E:a<(l0.length:Int):=Bu;obtain⟨K,T,u,v,x⟩:=BV y.o a D E;obtain rfl:t=K:=(by injection T);replace u:=(Au HB.o u:);replace v:=(Au HB.o v:);replace x:=(Au HB.o x:);replace D:=eq_true D;replace E:=eq_true E)|((with_reducible refine Bt (b:=.append) (xs:=#[.tmp 36,.tmp 42]) rfl ?_);at_builtin;refine Kd.E_ (Kd.int .i64) (w0:=w) w.heap.size rfl (.tmp 36) (.tmp 42) 74 3 (.int .i64 0) 8 rfl Tryd.underlying74 MO rfl (by decide) (by omega) u5 I ((Ag l0 a).f0) [.int .i64 ((Ag l0 a).f0)] (λ_=>True) (λ_=>False) rfl rfl ?aP (λ_ hk=>hk.elim) ?aF ?aO ?aB ?aS ?aL ?_;(case aP=>exact rfl);(case aB=>exact(Ad));(case aF=>exact(λ_ _=>trivial));(case aO=>exact(BC J.o));(case aS=>exact(Ab (Ad)));(case aL=>have:=Y.o;omega);intro ar aG ho hb hg ae;rw[<-Z.o]at ho;replace HB:=a_ (hb);have X:=a_ (ho);clear J;clear ho hb hg ae))
         repeat(go_quiet(first|(go_at_call 55;(with_reducible refine(Br.calls k1 _ _ l0 c G _ ?q' ?z' A9.o).mono ?_);(case q'=>exact Gt y.o);(case z'=>exact O.o);rintro e w' ⟨rfl,⟨nd,rfl⟩⟩;(try first|exact⟨rfl,_,World.drewN_drewN _ _ _⟩|exact⟨rfl,_,Eq.trans (World.drewN_drewN _ _ _) (congrArg (World.drewN _) (Nat.add_assoc _ _ _))⟩);have n:0≤(a:Int):=Bu;have p:a<(l0.length:Int):=Bu;obtain⟨t,A,d,g,i⟩:=BV y.o a n p;cases A;replace d:=(Au HB.o d:);replace g:=(Au HB.o g:);replace i:=(Au HB.o i:);replace n:=eq_true n;replace p:=eq_true p;have o:0≤(c:Int):=Bu;have q:c<(l0.length:Int):=Bu;obtain⟨z,B,j,l,m⟩:=BV y.o c o q;obtain rfl:t=z:=(by injection B);replace j:=(Au HB.o j:);replace l:=(Au HB.o l:);replace m:=(Au HB.o m:);replace o:=eq_true o;replace q:=eq_true q;have D:0≤(a:Int):=Bu;have E:a<(l0.length:Int):=Bu;obtain⟨K,T,u,v,x⟩:=BV y.o a D E;obtain rfl:t=K:=(by injection T);replace u:=(Au HB.o u:);replace v:=(Au HB.o v:);replace x:=(Au HB.o x:);replace D:=eq_true D;replace E:=eq_true E)|((with_reducible refine Bt (b:=.append) (xs:=#[.tmp 36,.tmp 42]) rfl ?_);at_builtin;refine Kd.E_ (Kd.int .i64) (w0:=w) w.heap.size rfl (.tmp 36) (.tmp 42) 74 3 (.int .i64 0) 8 rfl Tryd.underlying74 MO rfl (by decide) (by omega) u5 I ((Ag l0 a).f0) [.int .i64 ((Ag l0 a).f0)] (λ_=>True) (λ_=>False) rfl rfl ?aP (λ_ hk=>hk.elim) ?aF ?aO ?aB ?aS ?aL ?_;(case aP=>exact rfl);(case aB=>exact(Ad));(case aF=>exact(λ_ _=>trivial));(case aO=>exact(BC J.o));(case aS=>exact(Ab (Ad)));(case aL=>have:=Y.o;omega);intro ar aG ho hb hg ae;rw[<-Z.o]at ho;replace HB:=a_ (hb);have X:=a_ (ho);clear J;clear ho hb hg ae));try go_wp2_with(first|(go_at_call 55;(with_reducible refine(Br.calls k1 _ _ l0 c G _ ?q' ?z' A9.o).mono ?_);(case q'=>exact Gt y.o);(case z'=>exact O.o);rintro e w' ⟨rfl,⟨nd,rfl⟩⟩;(try first|exact⟨rfl,_,World.drewN_drewN _ _ _⟩|exact⟨rfl,_,Eq.trans (World.drewN_drewN _ _ _) (congrArg (World.drewN _) (Nat.add_assoc _ _ _))⟩);have n:0≤(a:Int):=Bu;have p:a<(l0.length:Int):=Bu;obtain⟨t,A,d,g,i⟩:=BV y.o a n p;cases A;replace d:=(Au HB.o d:);replace g:=(Au HB.o g:);replace i:=(Au HB.o i:);replace n:=eq_true n;replace p:=eq_true p;have o:0≤(c:Int):=Bu;have q:c<(l0.length:Int):=Bu;obtain⟨z,B,j,l,m⟩:=BV y.o c o q;obtain rfl:t=z:=(by injection B);replace j:=(Au HB.o j:);replace l:=(Au HB.o l:);replace m:=(Au HB.o m:);replace o:=eq_true o;replace q:=eq_true q;have D:0≤(a:Int):=Bu;have E:a<(l0.length:Int):=Bu;obtain⟨K,T,u,v,x⟩:=BV y.o a D E;obtain rfl:t=K:=(by injection T);replace u:=(Au HB.o u:);replace v:=(Au HB.o v:);replace x:=(Au HB.o x:);replace D:=eq_true D;replace E:=eq_true E)|((with_reducible refine Bt (b:=.append) (xs:=#[.tmp 36,.tmp 42]) rfl ?_);at_builtin;refine Kd.E_ (Kd.int .i64) (w0:=w) w.heap.size rfl (.tmp 36) (.tmp 42) 74 3 (.int .i64 0) 8 rfl Tryd.underlying74 MO rfl (by decide) (by omega) u5 I ((Ag l0 a).f0) [.int .i64 ((Ag l0 a).f0)] (λ_=>True) (λ_=>False) rfl rfl ?aP (λ_ hk=>hk.elim) ?aF ?aO ?aB ?aS ?aL ?_;(case aP=>exact rfl);(case aB=>exact(Ad));(case aF=>exact(λ_ _=>trivial));(case aO=>exact(BC J.o));(case aS=>exact(Ab (Ad)));(case aL=>have:=Y.o;omega);intro ar aG ho hb hg ae;rw[<-Z.o]at ho;replace HB:=a_ (hb);have X:=a_ (ho);clear J;clear ho hb hg ae)))
         go_roundg k1
         case measure=>have:=ai.o;omega
         case rel=>exact⟨(au),(wrap64 (a+1)),(Cr),H',⟨by have:=ai.o;omega⟩,⟨by(with_reducible repeat(first|apply Kd.R_alloc|apply Kd.An|apply Kd.As));exact X.o⟩,⟨Ad⟩⟩
        ·rw[if_neg ao]at H
         exact absurd H (by simp)
       ·rw[if_neg aa]at H
        have aw:(((Ag l0 a).f1)==(wrap64 (((Ag l0 c).f1)+1)))=false:=Dq aa
        have ax:(((Ag l0 a).f1) != (wrap64 (((Ag l0 c).f1)+1)))=true:=bne_iff_ne.mpr aa
        have H':=a_ H
        clear H
        go_wp2_with(first|(go_at_call 55;(with_reducible refine(Br.calls k1 _ _ l0 c G _ ?q' ?z' A9.o).mono ?_);(case q'=>exact Gt y.o);(case z'=>exact O.o);rintro e w' ⟨rfl,⟨nd,rfl⟩⟩;(try first|exact⟨rfl,_,World.drewN_drewN _ _ _⟩|exact⟨rfl,_,Eq.trans (World.drewN_drewN _ _ _) (congrArg (World.drewN _) (Nat.add_assoc _ _ _))⟩);have n:0≤(a:Int):=Bu;have p:a<(l0.length:Int):=Bu;obtain⟨t,A,d,g,i⟩:=BV y.o a n p;cases A;replace d:=(Au HB.o d:);replace g:=(Au HB.o g:);replace i:=(Au HB.o i:);replace n:=eq_true n;replace p:=eq_true p;have o:0≤(c:Int):=Bu;have q:c<(l0.length:Int):=Bu;obtain⟨z,B,j,l,m⟩:=BV y.o c o q;obtain rfl:t=z:=(by injection B);replace j:=(Au HB.o j:);replace l:=(Au HB.o l:);replace m:=(Au HB.o m:);replace o:=eq_true o;replace q:=eq_true q))
        repeat(go_quiet(first|(go_at_call 55;(with_reducible refine(Br.calls k1 _ _ l0 c G _ ?q' ?z' A9.o).mono ?_);(case q'=>exact Gt y.o);(case z'=>exact O.o);rintro e w' ⟨rfl,⟨nd,rfl⟩⟩;(try first|exact⟨rfl,_,World.drewN_drewN _ _ _⟩|exact⟨rfl,_,Eq.trans (World.drewN_drewN _ _ _) (congrArg (World.drewN _) (Nat.add_assoc _ _ _))⟩);have n:0≤(a:Int):=Bu;have p:a<(l0.length:Int):=Bu;obtain⟨t,A,d,g,i⟩:=BV y.o a n p;cases A;replace d:=(Au HB.o d:);replace g:=(Au HB.o g:);replace i:=(Au HB.o i:);replace n:=eq_true n;replace p:=eq_true p;have o:0≤(c:Int):=Bu;have q:c<(l0.length:Int):=Bu;obtain⟨z,B,j,l,m⟩:=BV y.o c o q;obtain rfl:t=z:=(by injection B);replace j:=(Au HB.o j:);replace l:=(Au HB.o l:);replace m:=(Au HB.o m:);replace o:=eq_true o;replace q:=eq_true q));try go_wp2_with(first|(go_at_call 55;(with_reducible refine(Br.calls k1 _ _ l0 c G _ ?q' ?z' A9.o).mono ?_);(case q'=>exact Gt y.o);(case z'=>exact O.o);rintro e w' ⟨rfl,⟨nd,rfl⟩⟩;(try first|exact⟨rfl,_,World.drewN_drewN _ _ _⟩|exact⟨rfl,_,Eq.trans (World.drewN_drewN _ _ _) (congrArg (World.drewN _) (Nat.add_assoc _ _ _))⟩);have n:0≤(a:Int):=Bu;have p:a<(l0.length:Int):=Bu;obtain⟨t,A,d,g,i⟩:=BV y.o a n p;cases A;replace d:=(Au HB.o d:);replace g:=(Au HB.o g:);replace i:=(Au HB.o i:);replace n:=eq_true n;replace p:=eq_true p;have o:0≤(c:Int):=Bu;have q:c<(l0.length:Int):=Bu;obtain⟨z,B,j,l,m⟩:=BV y.o c o q;obtain rfl:t=z:=(by injection B);replace j:=(Au HB.o j:);replace l:=(Au HB.o l:);replace m:=(Au HB.o m:);replace o:=eq_true o;replace q:=eq_true q)))
        go_roundg k1
        case measure=>have:=ai.o;omega
        case rel=>exact⟨(I),(wrap64 (a+1)),(Cr),H',⟨by have:=ai.o;omega⟩,⟨by(with_reducible repeat(first|apply Kd.R_alloc|apply Kd.An|apply Kd.As));exact J.o⟩,⟨Ad⟩⟩
      ·rw[if_neg an]at H
       exact absurd H (by simp)
     ·rw[if_neg al]at H
      exact absurd H (by simp)
    ·rw[if_neg ak]at H
     exact absurd H (by simp)
   ·rw[if_neg aj]at H
    exact absurd H (by simp)
  ·rw[if_neg Dr]at H
   have av:decide (a<G)=false:=C1 Dr
   clear Dr
   obtain rfl:=C5 H
   go_wp2_with(first|(go_at_call 55;(with_reducible refine(Br.calls k1 _ _ l0 c G _ ?q' ?z' A9.o).mono ?_);(case q'=>exact Gt y.o);(case z'=>exact O.o);rintro e w' ⟨rfl,⟨nd,rfl⟩⟩;(try first|exact⟨rfl,_,World.drewN_drewN _ _ _⟩|exact⟨rfl,_,Eq.trans (World.drewN_drewN _ _ _) (congrArg (World.drewN _) (Nat.add_assoc _ _ _))⟩)))
   go_ret
   exact⟨_,C_,by(with_reducible repeat(first|apply Kd.R_alloc|apply Kd.An|apply Kd.As));exact J.o,Ad⟩
def Db.f(c:Int)(d:Int):Option (Int):=(Aq.f c 1 3).bind λa=>(if a=true then((Aq.f d 1 6).bind λb=>(if b=true then(some (wrap64 ((wrap64 (10*c))+d)))else(some 0)))else(some 0))
theorem Db.calls(b:Int)(c:Int)(r:Int)(w:World)(h:Db.f b c=some r) :
  Calls Tryd.prog 44 #[.int .i64 b,.int .i64 c] w λe w'=>e=.returned (.int .i64 r)∧AA w w':=by
 unfold Db.f at h;have H:=h;clear h;replace H:=BU H;obtain⟨i,d,H⟩:=H;try dsimp only at H
 have j:=a_ d;clear d;by_cases c4:i=true
 ·subst c4;have H1:((Aq.f c 1 6).bind λa=>(if a=true then(some (wrap64 ((wrap64 (10*b))+c)))else(some 0)))=some r:=by rw[if_pos rfl]at H;exact H
  clear H;have H:=H1;clear H1;replace H:=BU H;obtain⟨a,g,H⟩:=H;try dsimp only at H
  have k:=a_ g;clear g;by_cases c6:a=true
  ·subst c6;have H1:(some (wrap64 ((wrap64 (10*b))+c)))=some r:=by rw[if_pos rfl]at H;exact H
   clear H;have H:=H1;clear H1;obtain rfl:=C5 H;go_enter Tryd.func44,Tryd.ntmps44;go_wp2_with(first|((with_reducible refine BN (f:=20) rfl ?_);refine BR 6 Tryd.func20 #[.int .i64 b,.int .i64 1,.int .i64 3] ?_;(with_reducible refine(Aq.calls b 1 3 true _ j.o).mono ?_);rintro e w' ⟨rfl,⟨nd,rfl⟩⟩;refine⟨_,rfl,?_⟩)|(go_at_call 20;(with_reducible refine(Aq.calls c 1 6 true _ k.o).mono ?_);rintro e w' ⟨rfl,⟨nd,rfl⟩⟩));go_ret;exact⟨Cr,by repeat(first|exact AA.refl _|apply AA.step)⟩
  replace c6:=Bool.eq_false_iff.mpr c6;subst c6;have H1:(some 0)=some r:=by rw[if_neg (show¬ (false=true) by decide)]at H;exact H
  clear H;have H:=H1;clear H1;obtain rfl:=C5 H;go_enter Tryd.func44,Tryd.ntmps44;go_wp2_with(first|((with_reducible refine BN (f:=20) rfl ?_);refine BR 6 Tryd.func20 #[.int .i64 b,.int .i64 1,.int .i64 3] ?_;(with_reducible refine(Aq.calls b 1 3 true _ j.o).mono ?_);rintro e w' ⟨rfl,⟨nd,rfl⟩⟩;refine⟨_,rfl,?_⟩)|(go_at_call 20;(with_reducible refine(Aq.calls c 1 6 false _ k.o).mono ?_);rintro e w' ⟨rfl,⟨nd,rfl⟩⟩));go_ret;exact⟨Cr,by repeat(first|exact AA.refl _|apply AA.step)⟩
 replace c4:=Bool.eq_false_iff.mpr c4;subst c4;have H1:(some 0)=some r:=by rw[if_neg (show¬ (false=true) by decide)]at H;exact H
 clear H;have H:=H1;clear H1;obtain rfl:=C5 H;go_enter Tryd.func44,Tryd.ntmps44;go_wp2_with(first|((with_reducible refine BN (f:=20) rfl ?_);refine BR 6 Tryd.func20 #[.int .i64 b,.int .i64 1,.int .i64 3] ?_;(with_reducible refine(Aq.calls b 1 3 false _ j.o).mono ?_);rintro e w' ⟨rfl,⟨nd,rfl⟩⟩;refine⟨_,rfl,?_⟩));go_ret;exact⟨Cr,by repeat(first|exact AA.refl _|apply AA.step)⟩
def D8.f(k:Nat)(l0:List (Ba))(e:Int)(g:Int):Option (Bool):=(Bd.f k l0 e).bind λb=>((Bd.f k l0 g).bind λa=>(if b≥0 then(if a≥0 then((Br.f k l0 a).bind λc=>((Aq.f b a (wrap64 (c-1))).bind λd=>(some d)))else(some false))else(some false)))
theorem D8.calls(k:Nat)(g:Option Addr)(l:Nat)(l0:List (Ba))(i:Int)(j:Int)(r:Bool)(w:World)(x:Kd.C Dj w g l0.length l0)(v:l0.length≤l)(h:D8.f k l0 i j=some r) :
  Calls Tryd.prog 65 #[.slice g l0.length l,.int .i64 i,.int .i64 j] w λe w'=>e=.returned (.bool r)∧AA w w':=by
 have d:=a_ x;have c:=a_ v;clear x v;unfold D8.f at h;have H:=h;clear h;replace H:=BU H;obtain⟨b,n,H⟩:=H;try dsimp only at H
 have z:=a_ n;clear n;replace H:=BU H;obtain⟨a,o,H⟩:=H;try dsimp only at H
 have A:=a_ o;clear o;by_cases c6:b≥0
 ·rw[if_pos c6]at H;have t:decide (0≤b)=true:=BJ c6;clear c6;by_cases c7:a≥0
  ·rw[if_pos c7]at H;have u:decide (0≤a)=true:=BJ c7;clear c7;replace H:=BU H;obtain⟨m,p,H⟩:=H;try dsimp only at H
   have B:=a_ p;clear p;replace H:=BU H;obtain⟨y,q,H⟩:=H;try dsimp only at H
   have D:=a_ q;clear q;obtain rfl:=C5 H;go_enter Tryd.func65,Tryd.ntmps65;go_wp2_with(first|((with_reducible refine BN (f:=54) rfl ?_);refine BR 11 Tryd.func54 #[.slice g l0.length l,.int .i64 i] ?_;(with_reducible refine(Bd.calls k _ _ l0 i b _ ?q' ?z' z.o).mono ?_);(case q'=>exact Ft d.o);(case z'=>exact c.o);rintro e w' ⟨rfl,⟨nd,rfl⟩⟩;refine⟨_,rfl,?_⟩)|((with_reducible refine BN (f:=54) rfl ?_);refine BR 14 Tryd.func54 #[.slice g l0.length l,.int .i64 j] ?_;(with_reducible refine(Bd.calls k _ _ l0 j a _ ?q' ?z' A.o).mono ?_);(case q'=>exact Ft d.o);(case z'=>exact c.o);rintro e w' ⟨rfl,⟨nd,rfl⟩⟩;refine⟨_,rfl,?_⟩)|(go_at_call 55;(with_reducible refine(Br.calls k _ _ l0 a m _ ?q' ?z' B.o).mono ?_);(case q'=>exact Ft d.o);(case z'=>exact c.o);rintro e w' ⟨rfl,⟨nd,rfl⟩⟩)|(go_at_call 20;(with_reducible refine(Aq.calls b a (wrap64 (m-1)) y _ D.o).mono ?_);rintro e w' ⟨rfl,⟨nd,rfl⟩⟩));go_ret;exact⟨Cr,by repeat(first|exact AA.refl _|apply AA.step)⟩
  rw[if_neg c7]at H;have u:decide (0≤a)=false:=C1 c7;clear c7;obtain rfl:=C5 H;go_enter Tryd.func65,Tryd.ntmps65;go_wp2_with(first|((with_reducible refine BN (f:=54) rfl ?_);refine BR 11 Tryd.func54 #[.slice g l0.length l,.int .i64 i] ?_;(with_reducible refine(Bd.calls k _ _ l0 i b _ ?q' ?z' z.o).mono ?_);(case q'=>exact Ft d.o);(case z'=>exact c.o);rintro e w' ⟨rfl,⟨nd,rfl⟩⟩;refine⟨_,rfl,?_⟩)|((with_reducible refine BN (f:=54) rfl ?_);refine BR 14 Tryd.func54 #[.slice g l0.length l,.int .i64 j] ?_;(with_reducible refine(Bd.calls k _ _ l0 j a _ ?q' ?z' A.o).mono ?_);(case q'=>exact Ft d.o);(case z'=>exact c.o);rintro e w' ⟨rfl,⟨nd,rfl⟩⟩;refine⟨_,rfl,?_⟩));go_ret;exact⟨Cr,by repeat(first|exact AA.refl _|apply AA.step)⟩
 rw[if_neg c6]at H;have t:decide (0≤b)=false:=C1 c6;clear c6;obtain rfl:=C5 H;go_enter Tryd.func65,Tryd.ntmps65;go_wp2_with(first|((with_reducible refine BN (f:=54) rfl ?_);refine BR 11 Tryd.func54 #[.slice g l0.length l,.int .i64 i] ?_;(with_reducible refine(Bd.calls k _ _ l0 i b _ ?q' ?z' z.o).mono ?_);(case q'=>exact Ft d.o);(case z'=>exact c.o);rintro e w' ⟨rfl,⟨nd,rfl⟩⟩;refine⟨_,rfl,?_⟩)|((with_reducible refine BN (f:=54) rfl ?_);refine BR 14 Tryd.func54 #[.slice g l0.length l,.int .i64 j] ?_;(with_reducible refine(Bd.calls k _ _ l0 j a _ ?q' ?z' A.o).mono ?_);(case q'=>exact Ft d.o);(case z'=>exact c.o);rintro e w' ⟨rfl,⟨nd,rfl⟩⟩;refine⟨_,rfl,?_⟩));go_ret;exact⟨Cr,by repeat(first|exact AA.refl _|apply AA.step)⟩
mutual
def AV.j0:Nat->List (Ba)->Bool->Int->Int->Int->Int->ByteArray->Option (Int×Int×Bool)
 | 0,_,_,_,_,_,_,_=>none
 | k+1,l,j,b,c,a,d,e=>if j=true then(some (0,0,false))else((Bd.f k l a).bind λg=>(if g<0 then(some (3,0,true))else((BD.f k l a).bind λi=>(AV.l0 k a 0 i 0 b c a d e))))
def AV.l0:Nat->Int->Int->List Int->Int->Int->Int->Int->Int->ByteArray->Option (Int×Int×Bool)
 | 0,_,_,_,_,_,_,_,_,_=>none
 | k+1,j,l,i,g,c,b,d,a,e=>if g<(i.length:Int)then(if 0≤g then(if(rd i g)=a then(if a=b then(AV.l0 k j l i (wrap64 (g+1)) c b d a e)else(AV.l0 k j a i (wrap64 (g+1)) c b d a e))else(AV.l0 k j l i (wrap64 (g+1)) c b d a e))else(none))else(some (j,l,true))
end
def AV.f(k:Nat)(l0:List (Ba))(a:Int)(b:Int)(c:Int)(d:Int)(e:ByteArray):Option (Int×Int×Bool):=(Bd.f k l0 b).bind λg=>(if a=2 then(AV.j0 k l0 true a b c d e)else(if((decide (g≥0)) != (a==3))=true then(AV.j0 k l0 true a b c d e)else(if g≥0 then((D8.f k l0 c b).bind λi=>(AV.j0 k l0 i a b c d e))else(AV.j0 k l0 false a b c d e))))
theorem AV.calls(k:Nat)(A0:Option Addr)(c0:Nat)(l0:List (Ba))(c:Int)(j:Int)(g:Int)(d:Int)(p:ByteArray)(r1:Int)(r2:Int)(r3:Bool)(w:World)(bQ:Kd.C Dj w A0 l0.length l0)(bO:l0.length≤c0)(h:AV.f k l0 c j g d p=some (r1,r2,r3)) :
  Calls Tryd.prog 56 #[.slice A0 l0.length c0,.agg #[.int .i64 c,.int .i64 j,.int .i64 g,.int .i64 d,.string p]] w λe w'=>e=.returned (.tuple #[.int .i64 r1,.int .i64 r2,.bool r3])∧Below w.heap.size w w':=by
 have cN:=Tryd.underlying30;have X:=a_ bQ;have U:=a_ bO;clear bQ bO;have HB:=a_ (Below.refl w.heap.size w);unfold AV.f at h;have H:=h;clear h;replace H:=BU H;obtain⟨l,bJ,H⟩:=H;try dsimp only at H
 have A3:=a_ bJ;clear bJ;have bc:=a_ H;clear H;go_enter Tryd.func56,Tryd.ntmps56;go_upto_region 2 with(first|((with_reducible refine Cd (N:=3) rfl ?_);refine CE 3 (#[.int .i64 c,.int .i64 j,.int .i64 g,.int .i64 d,.string p]) 30 ?_;intro v hg w5 ba hb;have b:=a_ (ba);have bV:=a_ ((by rw[hg];exact(Ab (Ad)):w.heap.size≤v));have bU:=a_ ((by rw[hg];exact(Ab (Ad)):w.heap.size≤v));replace HB:=a_ (BA (Ad) hb);clear hb ba hg;obtain⟨a0,a1,a2,a3,a4,aQ,aR,aS,aT,aU⟩:=Cy b.o)|(go_at_call 54;(with_reducible refine(Bd.calls k _ _ l0 j l _ ?q' ?z' A3.o).mono ?_);(case q'=>exact Gt X.o);(case z'=>exact U.o);rintro e w' ⟨rfl,⟨nd,rfl⟩⟩;(try first|exact⟨rfl,_,World.drewN_drewN _ _ _⟩|exact⟨rfl,_,Eq.trans (World.drewN_drewN _ _ _) (congrArg (World.drewN _) (Nat.add_assoc _ _ _))⟩)))
 (try simp only[Act.put,List.setIfInBounds_toArray,List.set_cons_zero,List.set_cons_succ]);go_cut [37]from 7 to 16 (λcD wc=>∃(kq:Nat) (x:Bool),cD=.bool x∧Ae (AV.j0 kq l0 x c j g d p=some (r1,r2,r3))∧Ae (kq≤k)∧Ae (wc.heap[v]?=some (.cells #[.int .i64 c,.int .i64 j,.int .i64 g,.int .i64 d,.string p] 30 (0,0)))∧Ae (Below w.heap.size w wc))
 case first =>
  have H:=bc.o;clear bc;by_cases c7:c=2
  ·rw[if_pos c7]at H;have q:(c==2)=true:=beq_iff_eq.mpr c7;have aL:(c != 2)=false:=Ff c7;clear c7;(first|rw[q]|(simp only[Cp,Cv];rw[q])|skip);have I:=a_ H;clear H;obtain⟨a5,a6,a7,a8,a9,aV,aW,aX,aY,aZ⟩:=Cy b.o;go_wp2;repeat(go_quiet(fail);try go_wp2)
   go_meet
   exact⟨_,(true),(Cr),I,⟨by first|omega|exact Nat.le_refl _⟩,⟨Bp b.o⟩,⟨Ad⟩⟩
  rw[if_neg c7]at H;have q:(c==2)=false:=Dq c7;have aL:(c != 2)=true:=bne_iff_ne.mpr c7;(first|rw[q]|(simp only[Cp,Cv];rw[q])|skip);by_cases c9:((decide (l≥0)) != (c==3))=true
  ·rw[if_pos c9]at H;have r:((decide (l≥0)) != (c==3))=true:=c9;(try(have y:decide ((decide (l≥0))=(c==3))=false:=by simpa using c9));(try(have A:((decide (l≥0))==(c==3))=false:=by simpa using c9));(try(have cI:¬ ((decide (l≥0))=(c==3)):=by simpa using c9));clear c9;have I:=a_ H;clear H;obtain⟨ar,au,av,aw,ax,Y,Z,aa,ab,ae⟩:=Cy b.o;go_wp2;repeat(go_quiet(fail);try go_wp2)
   go_meet
   exact⟨_,(true),(Cr),I,⟨by first|omega|exact Nat.le_refl _⟩,⟨Bp b.o⟩,⟨Ad⟩⟩
  rw[if_neg c9]at H;have r:((decide (l≥0)) != (c==3))=false:=by simpa using c9
  (try(have y:decide ((decide (l≥0))=(c==3))=true:=by simpa using c9));(try(have A:((decide (l≥0))==(c==3))=true:=by simpa using c9));clear c9;by_cases u:l≥0
  ·rw[if_pos u]at H;have cC:(c==3)=true:=by have h_:=r;rw[show decide (l≥0)=true from BJ u]at h_;generalize (c==3)=z at h_;cases z;all_goals first|rfl|cases h_
   clear r;(try clear y);(try clear A);have J:decide (0≤l)=true:=BJ u;clear u;replace H:=BU H;obtain⟨bb,aN,H⟩:=H;try dsimp only at H
   have bS:=a_ aN;clear aN;have I:=a_ H;clear H;obtain⟨ay,az,aA,aB,aC,af,ag,ah,ai,aj⟩:=Cy b.o;go_wp2_with(first|(go_at_call 65;(with_reducible refine(D8.calls k _ _ l0 g j bb _ ?q' ?z' bS.o).mono ?_);(case q'=>exact Gt X.o);(case z'=>exact U.o);rintro e w' ⟨rfl,⟨nd,rfl⟩⟩;(try first|exact⟨rfl,_,World.drewN_drewN _ _ _⟩|exact⟨rfl,_,Eq.trans (World.drewN_drewN _ _ _) (congrArg (World.drewN _) (Nat.add_assoc _ _ _))⟩)));go_meet
   exact⟨_,(bb),(Cr),I,⟨by first|omega|exact Nat.le_refl _⟩,⟨Bp b.o⟩,⟨Ad⟩⟩
  rw[if_neg u]at H;have cC:(c==3)=false:=by have h_:=r;rw[show decide (l≥0)=false from C1 u]at h_;generalize (c==3)=z at h_;cases z;all_goals first|rfl|cases h_
  clear r;(try clear y);(try clear A);have J:decide (0≤l)=false:=C1 u;clear u;have I:=a_ H;clear H;obtain⟨aD,aE,aF,aG,aH,ak,al,an,ao,aq⟩:=Cy b.o;go_wp2;repeat(go_quiet(fail);try go_wp2)
  go_meet
  exact⟨_,(false),(Cr),I,⟨by first|omega|exact Nat.le_refl _⟩,⟨Bp b.o⟩,⟨Ad⟩⟩
 clear bc;try clear c1
 try clear c7
 try clear q
 try clear aL
 try clear c9
 try clear r
 try clear y
 try clear A
 try clear u
 try clear J
 try clear ar au av aw ax Y Z aa ab ae
 try clear ay az aA aB aC af ag ah ai aj
 try clear aD aE aF aG aH ak al an ao aq
 try clear a0 a1 a2 a3 a4 aQ aR aS aT aU
 try clear a5 a6 a7 a8 a9 aV aW aX aY aZ
 obtain⟨kq,x,rfl,HA,O,b,HB⟩:=hcut;cases kq with
 | zero=>exact absurd HA.o (by simp[AV.j0])
 | succ E =>
  have H:=HA.o
  clear HA
  simp only[AV.j0]at H
  by_cases aJ:x=true
  ·subst aJ
   have H1:(some (0,0,false))=some (r1,r2,r3):=by rw[if_pos rfl]at H;exact H
   clear H
   have H:=H1
   clear H1
   simp only[Option.some.injEq,Prod.mk.injEq]at H
   obtain⟨rfl,rfl,rfl⟩:=H
   go_wp2
   repeat(go_quiet(fail);try go_wp2)
   go_ret3
   exact⟨C_,Ad⟩
  ·replace aJ:=Bool.eq_false_iff.mpr aJ
   subst aJ
   have H1:((Bd.f E l0 g).bind λt=>(if t<0 then(some (3,0,true))else((BD.f E l0 g).bind λi=>(AV.l0 E g 0 i 0 c j g d p))))=some (r1,r2,r3):=by rw[if_neg (show¬ (false=true) by decide)]at H;exact H
   clear H
   have H:=H1
   clear H1
   replace H:=BU H
   obtain⟨t,aO,H⟩:=H
   try dsimp only at H
   have bI:=a_ aO
   clear aO
   by_cases K:t<0
   ·rw[if_pos K]at H
    have aK:decide (t<0)=true:=BJ K
    clear K
    simp only[Option.some.injEq,Prod.mk.injEq]at H
    obtain⟨rfl,rfl,rfl⟩:=H
    obtain⟨bp,bq,br,bu,bw,be,bf,bg,bh,bj⟩:=Cy (W:=wc) b.o
    go_wp2_with(first|(go_at_call 54;(with_reducible refine(Bd.calls E _ _ l0 g t _ ?q' ?z' bI.o).mono ?_);(case q'=>exact Gt X.o);(case z'=>exact U.o);rintro e w' ⟨rfl,⟨nd,rfl⟩⟩;(try first|exact⟨rfl,_,World.drewN_drewN _ _ _⟩|exact⟨rfl,_,Eq.trans (World.drewN_drewN _ _ _) (congrArg (World.drewN _) (Nat.add_assoc _ _ _))⟩)))
    go_ret3
    exact⟨C_,Ad⟩
   ·rw[if_neg K]at H
    have aK:decide (t<0)=false:=C1 K
    clear K
    replace H:=BU H
    obtain⟨i,aP,H⟩:=H
    try dsimp only at H
    have bT:=a_ aP
    clear aP
    have I:=a_ H
    clear H
    obtain⟨bx,bz,bA,bB,bC,bk,bl,bm,bn,bo⟩:=Cy (W:=wc) b.o
    go_wp2_with(first|(go_at_call 54;(with_reducible refine(Bd.calls E _ _ l0 g t _ ?q' ?z' bI.o).mono ?_);(case q'=>exact Gt X.o);(case z'=>exact U.o);rintro e w' ⟨rfl,⟨nd,rfl⟩⟩;(try first|exact⟨rfl,_,World.drewN_drewN _ _ _⟩|exact⟨rfl,_,Eq.trans (World.drewN_drewN _ _ _) (congrArg (World.drewN _) (Nat.add_assoc _ _ _))⟩))|(go_at_call 43;(with_reducible refine(BD.calls E _ _ l0 g i _ ?q' ?z' bT.o).mono ?_);(case q'=>repeat(first|exact(Kd.Ct X.o (Ad))|(with_reducible refine Kd.C_alloc ?_ _)|(with_reducible refine Kd.Cz ?_ _)|(with_reducible refine Kd.C_drew ?_)));(case z'=>exact U.o);rintro e cO ⟨bR,rfl,bP,hb⟩;have bd:=a_ (Kd.AN bP (Ab (Ad)));replace HB:=a_ (BA (Ad) hb);replace b:=a_ (C3 b.o hb);(try clear hb bP)))
    go_loopg [9,11] E (λkq v9 v11 w'=>∃(G:Int) (a:Int),v9=.int .i64 G∧v11=.int .i64 a∧Ae (AV.l0 kq g G i a c j g d p=some (r1,r2,r3))∧Ae (kq≤E)∧Ae (Kd.R (Kd.int .i64) 3 w' w.heap.size (λ_=>True) bR i)∧Ae (w'.heap[v]?=some (.cells #[.int .i64 c,.int .i64 j,.int .i64 g,.int .i64 d,.string p] 30 (0,0)))∧Ae (Below w.heap.size w w'))
    case atStart=>exact⟨(0),(0),(Cr),(Cr),I,⟨Nat.le_refl _⟩,⟨by(with_reducible repeat(first|apply Kd.R_alloc|apply Kd.An|apply Kd.As));exact bd.o⟩,⟨Bp b.o⟩,⟨Ad⟩⟩
    case round =>
     clear I
     try clear c7
     try clear q
     try clear aL
     try clear c9
     try clear r
     try clear y
     try clear A
     try clear u
     try clear J
     try clear aJ
     try clear K
     try clear aK
     try clear ar au av aw ax Y Z aa ab ae
     try clear ay az aA aB aC af ag ah ai aj
     try clear aD aE aF aG aH ak al an ao aq
     try clear bp bq br bu bw be bf bg bh bj
     try clear bx bz bA bB bC bk bl bm bn bo
     try clear a0 a1 a2 a3 a4 aQ aR aS aT aU
     try clear a5 a6 a7 a8 a9 aV aW aX aY aZ
     obtain⟨G,a,rfl,rfl,HA,P,m,b,HB⟩:=hrel
     cases gk with
     | zero=>exact absurd HA.o (by simp[AV.l0])
     | succ k2 =>
      have H:=HA.o
      clear HA
      simp only[AV.l0]at H
      by_cases T:a<(i.length:Int)
      ·rw[if_pos T]at H
       have bD:decide (a<(i.length:Int))=true:=BJ T
       clear T
       by_cases aM:0≤a
       ·rw[if_pos aM]at H
        have cB:decide (0≤a)=true:=BJ aM
        clear aM
        by_cases L:(rd i a)=d
        ·rw[if_pos L]at H
         have bE:((rd i a)==d)=true:=beq_iff_eq.mpr L
         have bF:((rd i a) != d)=false:=Ff L
         clear L
         by_cases M:d=j
         ·rw[if_pos M]at H
          have bG:(d==j)=true:=beq_iff_eq.mpr M
          have bH:(d != j)=false:=Ff M
          clear M
          have I:=a_ H
          clear H
          obtain⟨cE,cJ,bK⟩:=Kd.Bg m.o
          subst bK
          have n:0≤(a:Int):=Bu
          have o:a<(i.length:Int):=Bu
          obtain⟨aI,B,D⟩:=Kd.Fe (Kd.AD m.o).2.2 a n o
          cases B
          replace n:=eq_true n
          replace o:=eq_true o
          obtain⟨ck,cl,cm,cn,cp,bW,bX,bY,bZ,b6⟩:=Cy (W:=wr) b.o
          go_wp2
          repeat(go_quiet(fail);try go_wp2)
          go_roundg k2
          case measure=>have:=O.o;have:=P.o;omega
          case rel=>exact⟨(G),(wrap64 (a+1)),(Cr),(Cr),I,⟨by have:=O.o;have:=P.o;omega⟩,⟨by(with_reducible repeat(first|apply Kd.R_alloc|apply Kd.An|apply Kd.As));exact m.o⟩,⟨Bp b.o⟩,⟨Ad⟩⟩
         ·rw[if_neg M]at H
          have bG:(d==j)=false:=Dq M
          have bH:(d != j)=true:=bne_iff_ne.mpr M
          have I:=a_ H
          clear H
          obtain⟨cF,cK,bL⟩:=Kd.Bg m.o
          subst bL
          have n:0≤(a:Int):=Bu
          have o:a<(i.length:Int):=Bu
          obtain⟨aI,B,D⟩:=Kd.Fe (Kd.AD m.o).2.2 a n o
          cases B
          replace n:=eq_true n
          replace o:=eq_true o
          obtain⟨cq,cr,ct,cu,cv,b7,b8,b9,b_,ca⟩:=Cy (W:=wr) b.o
          go_wp2
          repeat(go_quiet(fail);try go_wp2)
          go_roundg k2
          case measure=>have:=O.o;have:=P.o;omega
          case rel=>exact⟨(d),(wrap64 (a+1)),(Cr),(Cr),I,⟨by have:=O.o;have:=P.o;omega⟩,⟨by(with_reducible repeat(first|apply Kd.R_alloc|apply Kd.An|apply Kd.As));exact m.o⟩,⟨Bp b.o⟩,⟨Ad⟩⟩
        ·rw[if_neg L]at H
         have bE:((rd i a)==d)=false:=Dq L
         have bF:((rd i a) != d)=true:=bne_iff_ne.mpr L
         have I:=a_ H
         clear H
         obtain⟨cG,cL,bM⟩:=Kd.Bg m.o
         subst bM
         have n:0≤(a:Int):=Bu
         have o:a<(i.length:Int):=Bu
         obtain⟨aI,B,D⟩:=Kd.Fe (Kd.AD m.o).2.2 a n o
         cases B
         replace n:=eq_true n
         replace o:=eq_true o
         obtain⟨cw,cx,cy,cz,cA,cb,cd,cf,cg,cj⟩:=Cy (W:=wr) b.o
         go_wp2
         repeat(go_quiet(fail);try go_wp2)
         go_roundg k2
         case measure=>have:=O.o;have:=P.o;omega
         case rel=>exact⟨(G),(wrap64 (a+1)),(Cr),(Cr),I,⟨by have:=O.o;have:=P.o;omega⟩,⟨by(with_reducible repeat(first|apply Kd.R_alloc|apply Kd.An|apply Kd.As));exact m.o⟩,⟨Bp b.o⟩,⟨Ad⟩⟩
       ·rw[if_neg aM]at H
        exact absurd H (by simp)
      ·rw[if_neg T]at H
       have bD:decide (a<(i.length:Int))=false:=C1 T
       clear T
       simp only[Option.some.injEq,Prod.mk.injEq]at H
       obtain⟨rfl,rfl,rfl⟩:=H
       obtain⟨cH,cM,bN⟩:=Kd.Bg m.o
       subst bN
       go_wp2
       repeat(go_quiet(fail);try go_wp2)
       go_ret3
       exact⟨C_,Ad⟩
mutual
def AX.j0:Nat->List (Ba)->List (Ba)->Int->Int->Option ((List (Ba)))
 | 0,_,_,_,_=>none
 | k+1,d,g,e,a=>(some (([]:List (Ba)):List (Ba))).bind λb=>(if 0≤a then(if a≤(d.length:Int)then((some (d.take (a:Int).toNat:List (Ba))).bind λc=>(if b.length+c.length<4398046511104 then(AX.l0 k d g e a (b++c) 0)else(none)))else(none))else(none))
def AX.l0:Nat->List (Ba)->List (Ba)->Int->Int->List (Ba)->Int->Option ((List (Ba)))
 | 0,_,_,_,_,_,_=>none
 | k+1,i,e,g,b,c,a=>if a<(e.length:Int)then(if 0≤a then(if c.length<4398046511104 then(AX.l0 k i e g b (c++[(⟨(Ag e a).f0,wrap64 (((Ag e a).f1)+g),(Ag e a).f2⟩:Ba)]) (wrap64 (a+1)))else(none))else(none))else(if 0≤b then(if b≤(i.length:Int)then((some (i.drop (b:Int).toNat:List (Ba))).bind λd=>(if c.length+d.length<4398046511104 then(some (c++d))else(none)))else(none))else(none))
end
def AX.f(k:Nat)(l0:List (Ba))(l1:List (Ba))(e:Int)(d:Int):Option ((List (Ba))):=(Bd.f k l0 e).bind λa=>(if 0≤a then(if a<(l0.length:Int)then(if 0<(l1.length:Int)then(if d>0 then((Bd.f k l0 d).bind λb=>((Br.f k l0 b).bind λc=>(AX.j0 k l0 l1 (wrap64 ((wrap64 (((Ag l0 a).f1)+1))-((Ag l1 0).f1))) c)))else(AX.j0 k l0 l1 (wrap64 ((wrap64 (((Ag l0 a).f1)+1))-((Ag l1 0).f1))) (wrap64 (a+1))))else(none))else(none))else(none))
theorem AX.calls(k:Nat)(A0:Option Addr)(c0:Nat)(l0:List (Ba))(A1:Option Addr)(c1:Nat)(l1:List (Ba))(a2:Int)(a3:Int)(r:List (Ba))(w:World)(bO:Kd.C Dj w A0 l0.length l0)(bM:l0.length≤c0)(bP:Kd.C Dj w A1 l1.length l1)(bN:l1.length≤c1)(h:AX.f k l0 l1 a2 a3=some r) :
  Calls Tryd.prog 57 #[.slice A0 l0.length c0,.slice A1 l1.length c1,.int .i64 a2,.int .i64 a3] w λe w'=>∃bR:Value,e=.returned (bR)∧Kd.R Dj 68 w' w.heap.size (λ_=>True) bR r∧Below w.heap.size w w':=by
 have cw:=Tryd.underlying68;have aa:=a_ bO;have al:=a_ bM;clear bO bM;have aV:=a_ bP;have cC:=a_ bN;clear bP bN;have HB:=a_ (Below.refl w.heap.size w);unfold AX.f at h;have H:=h;clear h;replace H:=BU H;obtain⟨j,bI,H⟩:=H;try dsimp only at H
 have A5:=a_ bI;clear bI;by_cases c6:0≤j
 ·rw[if_pos c6]at H;have a7:decide (0≤j)=true:=BJ c6;clear c6;by_cases c7:j<(l0.length:Int)
  ·rw[if_pos c7]at H;have a8:decide (j<(l0.length:Int))=true:=BJ c7;clear c7;by_cases c8:0<(l1.length:Int)
   ·rw[if_pos c8]at H;have a9:decide (0<(l1.length:Int))=true:=BJ c8;have ba:decide (0<l1.length)=true:=BJ (by omega);clear c8;have bj:=a_ H;clear H;go_enter Tryd.func57,Tryd.ntmps57;go_upto_if 32 with(first|(go_at_call 54;(with_reducible refine(Bd.calls k _ _ l0 a2 j _ ?q' ?z' A5.o).mono ?_);(case q'=>exact Ft aa.o);(case z'=>exact al.o);rintro e w' ⟨rfl,⟨nd,rfl⟩⟩;(try first|exact⟨rfl,_,World.drewN_drewN _ _ _⟩|exact⟨rfl,_,Eq.trans (World.drewN_drewN _ _ _) (congrArg (World.drewN _) (Nat.add_assoc _ _ _))⟩);have v:0≤(j:Int):=Bu;have y:j<(l0.length:Int):=Bu;obtain⟨A,ab,I,J,K⟩:=BV aa.o j v y;cases ab;replace v:=eq_true v;replace y:=eq_true y;have x:0≤(0:Int):=(by omega);have z:0<(l1.length:Int):=Bu;obtain⟨an,ae,l,n,q⟩:=BV aV.o 0 x z;cases ae;have aU:(0<l1.length)=True:=eq_true (by omega);(try rw[show((0:Int)).toNat=0 from rfl]at l);(try rw[show 0*3=0 from rfl]at l);(try rw[Addr.add_zero']at l);(try rw[show((0:Int)).toNat=0 from rfl]at n);(try rw[show 0*3=0 from rfl]at n);(try rw[Addr.add_zero']at n);(try rw[show((0:Int)).toNat=0 from rfl]at q);(try rw[show 0*3=0 from rfl]at q);(try rw[Addr.add_zero']at q);replace x:=eq_true x;replace z:=eq_true z))
    repeat(go_quiet(first|(go_at_call 54;(with_reducible refine(Bd.calls k _ _ l0 a2 j _ ?q' ?z' A5.o).mono ?_);(case q'=>exact Ft aa.o);(case z'=>exact al.o);rintro e w' ⟨rfl,⟨nd,rfl⟩⟩;(try first|exact⟨rfl,_,World.drewN_drewN _ _ _⟩|exact⟨rfl,_,Eq.trans (World.drewN_drewN _ _ _) (congrArg (World.drewN _) (Nat.add_assoc _ _ _))⟩);have v:0≤(j:Int):=Bu;have y:j<(l0.length:Int):=Bu;obtain⟨A,ab,I,J,K⟩:=BV aa.o j v y;cases ab;replace v:=eq_true v;replace y:=eq_true y;have x:0≤(0:Int):=(by omega);have z:0<(l1.length:Int):=Bu;obtain⟨an,ae,l,n,q⟩:=BV aV.o 0 x z;cases ae;have aU:(0<l1.length)=True:=eq_true (by omega);(try rw[show((0:Int)).toNat=0 from rfl]at l);(try rw[show 0*3=0 from rfl]at l);(try rw[Addr.add_zero']at l);(try rw[show((0:Int)).toNat=0 from rfl]at n);(try rw[show 0*3=0 from rfl]at n);(try rw[Addr.add_zero']at n);(try rw[show((0:Int)).toNat=0 from rfl]at q);(try rw[show 0*3=0 from rfl]at q);(try rw[Addr.add_zero']at q);replace x:=eq_true x;replace z:=eq_true z));go_upto_if 32 with(first|(go_at_call 54;(with_reducible refine(Bd.calls k _ _ l0 a2 j _ ?q' ?z' A5.o).mono ?_);(case q'=>exact Ft aa.o);(case z'=>exact al.o);rintro e w' ⟨rfl,⟨nd,rfl⟩⟩;(try first|exact⟨rfl,_,World.drewN_drewN _ _ _⟩|exact⟨rfl,_,Eq.trans (World.drewN_drewN _ _ _) (congrArg (World.drewN _) (Nat.add_assoc _ _ _))⟩);have v:0≤(j:Int):=Bu;have y:j<(l0.length:Int):=Bu;obtain⟨A,ab,I,J,K⟩:=BV aa.o j v y;cases ab;replace v:=eq_true v;replace y:=eq_true y;have x:0≤(0:Int):=(by omega);have z:0<(l1.length:Int):=Bu;obtain⟨an,ae,l,n,q⟩:=BV aV.o 0 x z;cases ae;have aU:(0<l1.length)=True:=eq_true (by omega);(try rw[show((0:Int)).toNat=0 from rfl]at l);(try rw[show 0*3=0 from rfl]at l);(try rw[Addr.add_zero']at l);(try rw[show((0:Int)).toNat=0 from rfl]at n);(try rw[show 0*3=0 from rfl]at n);(try rw[Addr.add_zero']at n);(try rw[show((0:Int)).toNat=0 from rfl]at q);(try rw[show 0*3=0 from rfl]at q);(try rw[Addr.add_zero']at q);replace x:=eq_true x;replace z:=eq_true z)))
    (try simp only[Act.put,List.setIfInBounds_toArray,List.set_cons_zero,List.set_cons_succ]);go_cut [11] (λv11 wc=>∃(kq:Nat) (d:Int),v11=.int .i64 d∧Ae (AX.j0 kq l0 l1 (wrap64 ((wrap64 (((Ag l0 j).f1)+1))-((Ag l1 0).f1))) d=some r)∧Ae (kq≤k)∧Ae (Below w.heap.size w wc))
    case first =>
     have H:=bj.o;clear bj;by_cases Dr:a3>0
     ·rw[if_pos Dr]at H;have G:decide (0<a3)=true:=BJ Dr;clear Dr;(first|rw[G]|(simp only[Cp,Cv];rw[G])|skip);replace H:=BU H;obtain⟨be,a5,H⟩:=H;try dsimp only at H
      have bU:=a_ a5;clear a5;replace H:=BU H;obtain⟨bf,a6,H⟩:=H;try dsimp only at H
      have bV:=a_ a6;clear a6;have H':=a_ H;clear H;go_wp2_with(first|(go_at_call 54;(with_reducible refine(Bd.calls k _ _ l0 a3 be _ ?q' ?z' bU.o).mono ?_);(case q'=>exact Gt aa.o);(case z'=>exact al.o);rintro e w' ⟨rfl,⟨nd,rfl⟩⟩;(try first|exact⟨rfl,_,World.drewN_drewN _ _ _⟩|exact⟨rfl,_,Eq.trans (World.drewN_drewN _ _ _) (congrArg (World.drewN _) (Nat.add_assoc _ _ _))⟩))|(go_at_call 55;(with_reducible refine(Br.calls k _ _ l0 be bf _ ?q' ?z' bV.o).mono ?_);(case q'=>repeat(first|exact(Kd.Ct aa.o (Ad))|(with_reducible refine Kd.C_alloc ?_ _)|(with_reducible refine Kd.Cz ?_ _)|(with_reducible refine Kd.C_drew ?_)));(case z'=>exact al.o);rintro e w' ⟨rfl,⟨nd,rfl⟩⟩;(try first|exact⟨rfl,_,World.drewN_drewN _ _ _⟩|exact⟨rfl,_,Eq.trans (World.drewN_drewN _ _ _) (congrArg (World.drewN _) (Nat.add_assoc _ _ _))⟩)));go_meet
      exact⟨_,(bf),(Cr),H',⟨by first|omega|exact Nat.le_refl _⟩,⟨Ad⟩⟩
     rw[if_neg Dr]at H;have G:decide (0<a3)=false:=C1 Dr;clear Dr;(first|rw[G]|(simp only[Cp,Cv];rw[G])|skip);have H':=a_ H;clear H;go_wp2;repeat(go_quiet(fail);try go_wp2)
     go_meet
     exact⟨_,(wrap64 (j+1)),(Cr),H',⟨by first|omega|exact Nat.le_refl _⟩,⟨Ad⟩⟩
    clear bj;try clear c1
    try clear c6
    try clear a7
    try clear c7
    try clear a8
    try clear c8
    try clear a9
    try clear ba
    try clear Dr
    try clear G
    try clear I
    try clear J
    try clear K
    try clear l
    try clear n
    try clear q
    try clear v
    try clear x
    try clear y
    try clear z
    obtain⟨kq,d,rfl,HA,bJ,HB⟩:=hcut;cases kq with
    | zero=>exact absurd HA.o (by simp[AX.j0])
    | succ aM =>
     have H:=HA.o
     clear HA
     simp only[AX.j0]at H
     obtain⟨Z,O⟩:∃y_:List (Ba),y_=(([]:List (Ba))):=⟨_,rfl⟩
     replace H:(if 0≤d then(if d≤(l0.length:Int)then((some (l0.take (d:Int).toNat:List (Ba))).bind λB=>(if Z.length+B.length<4398046511104 then(AX.l0 aM l0 l1 (wrap64 ((wrap64 (((Ag l0 j).f1)+1))-((Ag l1 0).f1))) d (Z++B) 0)else(none)))else(none))else(none))=some r:=by first|(rw[O];with_reducible exact H)|(have t:=(Option.bind_some _ _).symm.trans H;rw[O];with_reducible exact t)|(have t:=(Option.bind_some _ _).symm.trans H;with_reducible exact t)|with_reducible exact H|(rw[O];exact H)|exact H
     have aw:=a_ O
     clear O
     by_cases aq:0≤d
     ·rw[if_pos aq]at H
      have bA:=eq_true aq
      have bB:decide (0≤d)=true:=BJ aq
      clear aq
      by_cases ar:d≤(l0.length:Int)
      ·rw[if_pos ar]at H
       have bC:=eq_true ar
       have bD:decide (d≤(l0.length:Int))=true:=BJ ar
       clear ar
       obtain⟨B,T⟩:∃y_:List (Ba),y_=(l0.take (d:Int).toNat):=⟨_,rfl⟩
       replace H:(if Z.length+B.length<4398046511104 then(AX.l0 aM l0 l1 (wrap64 ((wrap64 (((Ag l0 j).f1)+1))-((Ag l1 0).f1))) d (Z++B) 0)else(none))=some r:=by first|(rw[T];with_reducible exact H)|(have t:=(Option.bind_some _ _).symm.trans H;rw[T];with_reducible exact t)|(have t:=(Option.bind_some _ _).symm.trans H;with_reducible exact t)|with_reducible exact H|(rw[T];exact H)|exact H
       have ax:=a_ T
       clear T
       by_cases az:Z.length+B.length<4398046511104
       ·rw[if_pos az]at H
        have bp:=a_ az
        clear az
        obtain⟨bg,U⟩:∃y_:List (Ba),y_=(Z++B):=⟨_,rfl⟩
        replace H:(AX.l0 aM l0 l1 (wrap64 ((wrap64 (((Ag l0 j).f1)+1))-((Ag l1 0).f1))) d bg 0)=some r:=by first|(rw[U];with_reducible exact H)|(have t:=(Option.bind_some _ _).symm.trans H;rw[U];with_reducible exact t)|(have t:=(Option.bind_some _ _).symm.trans H;with_reducible exact t)|with_reducible exact H|(rw[U];exact H)|exact H
        have bu:=a_ U
        clear U
        have H':=a_ H
        clear H
        go_wp2_with(first|((with_reducible refine Cd (N:=38) rfl ?_);refine Kd.DD Dj _ 68 ?hg (N:=38) ?hd (xs:=([]:List (Ba))) (inner:=[]) (ok:=λ_=>True) (okp:=λ_=>True) ?hr ?hp (λ_ hk=>hk) trivial (Below.refl _ _) (Nat.le_refl _) (by simp) ?_;(case hd=>rfl);(case hg=>rfl);(case hr=>first|(go_simp;done)|(go_simp;rfl));(case hp=>exact(Bi.none _ _));intro bS cD af hb Du bF;clear Du bF;(first|rw[<-aw.o]at af|(simp only[Int.reduceToNat]at af;rw[<-aw.o]at af));have av:=a_ (Kd.AN af (Ab (Ad)));replace HB:=a_ (BA (Ad) hb);clear hb af;have aQ:(d:Int)≤((l0.length:Int):Int):=Bu;obtain⟨cx,aG,_,bG,_⟩:=info_parts EC;have ah:l0.length≤c0:=al.o;have bb:Kd.C Dj _ (some A) l0.length l0:=aa.o;have aZ:=GJ (P:=Tryd.prog) 23 68 .i64 Tryd.underlying23 aG (some A) l0.length c0 d (Bu) aQ ah;have aI:=Kd.GB (m:=(d:Int).toNat) bb (by omega);have aK:B.length=(d:Int).toNat:=(by rw[ax.o,List.length_take];omega);rw[<-ax.o]at aI;rw[<-aK]at aZ;have bn:=a_ aI;have bZ:=a_ (show B.length≤c0 from by omega);clear aI bb ah aG bG;have cq:=a_ aK;clear aK;replace aQ:=eq_true aQ)|((with_reducible refine Bt (b:=.append) (xs:=#[.tmp 38,.tmp 41]) rfl ?_);at_builtin;refine Kd.Co Dj (w0:=w) w.heap.size rfl (.tmp 38) (.tmp 41) 23 68 (.agg #[(.int .i64 0),(.int .i64 0),(.string ⟨#[]⟩)]) 32 rfl Tryd.underlying23 EC rfl (by decide) (by omega) bS Z B _ _ _ (λ_=>True) (λ_=>False) rfl rfl ?aO ?aR (λ_ _ h=>h) (λ_ h=>h.elim) ?aF ?aB ?aS ?aL ?_;(case aR=>exact Ft (Kd.Ct bn.o HB.o));(case aB=>exact(Ad));(case aF=>exact(λ_ _=>trivial));(case aO=>exact(BC av.o));(case aS=>exact(Ab (Ad)));(case aL=>have:=bp.o;omega);intro cz cE ho hb hg aD;rw[<-bu.o]at ho;replace HB:=a_ (hb);have bk:=a_ (ho);clear av;clear ho hb hg aD))
        go_loopg [12,13] aM (λkq cm cn w'=>∃(u:List (Ba)) (a:Int),cn=.int .i64 a∧Ae (AX.l0 kq l0 l1 (wrap64 ((wrap64 (((Ag l0 j).f1)+1))-((Ag l1 0).f1))) d u a=some r)∧Ae (kq≤aM)∧Ae (Kd.R Dj 68 w' w.heap.size (λ_=>True) cm u)∧Ae (Below w.heap.size w w'))
        case atStart=>exact⟨(bg),(0),(Cr),H',⟨Nat.le_refl _⟩,⟨by(with_reducible repeat(first|apply Kd.R_alloc|apply Kd.An|apply Kd.As));exact bk.o⟩,⟨Ad⟩⟩
        case round =>
         clear H'
         try clear c1
         try clear c6
         try clear a7
         try clear c7
         try clear a8
         try clear c8
         try clear a9
         try clear ba
         try clear Dr
         try clear G
         try clear aq
         try clear bA
         try clear bB
         try clear ar
         try clear bC
         try clear bD
         try clear az
         try clear aQ
         try clear I
         try clear J
         try clear K
         try clear l
         try clear n
         try clear q
         try clear v
         try clear x
         try clear aQ
         try clear y
         try clear z
         obtain⟨u,a,rfl,HA,bK,E,HB⟩:=hrel
         cases gk with
         | zero=>exact absurd HA.o (by simp[AX.l0])
         | succ k2 =>
          have H:=HA.o
          clear HA
          simp only[AX.l0]at H
          by_cases au:a<(l1.length:Int)
          ·rw[if_pos au]at H
           have bE:decide (a<(l1.length:Int))=true:=BJ au
           clear au
           by_cases aW:0≤a
           ·rw[if_pos aW]at H
            have cd:decide (0≤a)=true:=BJ aW
            clear aW
            by_cases aX:u.length<4398046511104
            ·rw[if_pos aX]at H
             have bq:=a_ aX
             clear aX
             obtain⟨bh,W⟩:∃y_:List (Ba),y_=(u++[(⟨(Ag l1 a).f0,wrap64 (((Ag l1 a).f1)+(wrap64 ((wrap64 (((Ag l0 j).f1)+1))-((Ag l1 0).f1)))),(Ag l1 a).f2⟩:Ba)]):=⟨_,rfl⟩
             replace H:(AX.l0 k2 l0 l1 (wrap64 ((wrap64 (((Ag l0 j).f1)+1))-((Ag l1 0).f1))) d bh (wrap64 (a+1)))=some r:=by first|(rw[W];with_reducible exact H)|(have t:=(Option.bind_some _ _).symm.trans H;rw[W];with_reducible exact t)|(have t:=(Option.bind_some _ _).symm.trans H;with_reducible exact t)|with_reducible exact H|(rw[W];exact H)|exact H
             have bw:=a_ W
             clear W
             have H':=a_ H
             clear H
             have aN:0≤(a:Int):=Bu
             have aT:a<(l1.length:Int):=Bu
             obtain⟨bz,bL,ai,aj,ak⟩:=BV aV.o a aN aT
             obtain rfl:an=bz:=(by injection bL)
             replace ai:=(Au HB.o ai:)
             replace aj:=(Au HB.o aj:)
             replace ak:=(Au HB.o ak:)
             replace aN:=eq_true aN
             replace aT:=eq_true aT
             go_wp2_with(first|((with_reducible refine Cd (N:=14) rfl ?_);refine CE 14 (#[.int .i64 0,.int .i64 0,.string (⟨#[]⟩:ByteArray)]) 68 ?_;intro i hg a4 bd hb;have L:=a_ (bd);have bY:=a_ ((by rw[hg];exact(Ab (Ad)):w.heap.size≤i));have bX:=a_ ((by rw[hg];exact(Ab (Ad)):w.heap.size≤i));replace E:=a_ (Kd.AZ (Kd.Mi (BC E.o) i (Nat.le_of_eq hg.symm)) hb);replace HB:=a_ (BA (Ad) hb);clear hb bd hg;obtain⟨b_,ca,cb,b7,b8,b9⟩:=DK L.o;have a1:((((a4.setCell ⟨i,0,none⟩ (.int .i64 ((Ag l1 a).f0))).setCell ⟨i,1,none⟩ (.int .i64 ((Ag l1 a).f1))).setCell ⟨i,2,none⟩ (.string ((Ag l1 a).f2))).setCell ⟨i,1,none⟩ (.int .i64 (wrap64 (((Ag l1 a).f1)+(wrap64 ((wrap64 (((Ag l0 j).f1)+1))-((Ag l1 0).f1))))))).heap[i]?=some (.cells #[.int .i64 ((Ag l1 a).f0),.int .i64 (wrap64 (((Ag l1 a).f1)+(wrap64 ((wrap64 (((Ag l0 j).f1)+1))-((Ag l1 0).f1))))),.string ((Ag l1 a).f2)] 68 (0,0)):=(E8 (E8 (E8 (E8 L.o 0 _) 1 _) 2 _) 1 _).trans rfl;have ct:((((a4.setCell ⟨i,0,none⟩ (.int .i64 ((Ag l1 a).f0))).setCell ⟨i,1,none⟩ (.int .i64 ((Ag l1 a).f1))).setCell ⟨i,2,none⟩ (.string ((Ag l1 a).f2))).setCell ⟨i,1,none⟩ (.int .i64 (wrap64 (((Ag l1 a).f1)+(wrap64 ((wrap64 (((Ag l0 j).f1)+1))-((Ag l1 0).f1))))))).cell? ⟨i,0,none⟩=some (.int .i64 ((Ag l1 a).f0)):=(AO a1 0).trans rfl;have cu:((((a4.setCell ⟨i,0,none⟩ (.int .i64 ((Ag l1 a).f0))).setCell ⟨i,1,none⟩ (.int .i64 ((Ag l1 a).f1))).setCell ⟨i,2,none⟩ (.string ((Ag l1 a).f2))).setCell ⟨i,1,none⟩ (.int .i64 (wrap64 (((Ag l1 a).f1)+(wrap64 ((wrap64 (((Ag l0 j).f1)+1))-((Ag l1 0).f1))))))).cell? ⟨i,1,none⟩=some (.int .i64 (wrap64 (((Ag l1 a).f1)+(wrap64 ((wrap64 (((Ag l0 j).f1)+1))-((Ag l1 0).f1)))))):=(AO a1 1).trans rfl;have cv:((((a4.setCell ⟨i,0,none⟩ (.int .i64 ((Ag l1 a).f0))).setCell ⟨i,1,none⟩ (.int .i64 ((Ag l1 a).f1))).setCell ⟨i,2,none⟩ (.string ((Ag l1 a).f2))).setCell ⟨i,1,none⟩ (.int .i64 (wrap64 (((Ag l1 a).f1)+(wrap64 ((wrap64 (((Ag l0 j).f1)+1))-((Ag l1 0).f1))))))).cell? ⟨i,2,none⟩=some (.string ((Ag l1 a).f2)):=(AO a1 2).trans rfl;clear a1)|((with_reducible refine Bt (b:=.append) (xs:=#[.tmp 58,.tmp 60]) rfl ?_);at_builtin;refine Kd.E_ Dj (w0:=w) w.heap.size rfl (.tmp 58) (.tmp 60) 23 68 (.agg #[(.int .i64 0),(.int .i64 0),(.string ⟨#[]⟩)]) 32 rfl Tryd.underlying23 EC rfl (by decide) (by omega) u12 u (⟨(Ag l1 a).f0,wrap64 (((Ag l1 a).f1)+(wrap64 ((wrap64 (((Ag l0 j).f1)+1))-((Ag l1 0).f1)))),(Ag l1 a).f2⟩:Ba) [.int .i64 ((Ag l1 a).f0),.int .i64 (wrap64 (((Ag l1 a).f1)+(wrap64 ((wrap64 (((Ag l0 j).f1)+1))-((Ag l1 0).f1))))),.string ((Ag l1 a).f2)] (λk_=>k_≠i) (λ_=>False) rfl (by first|(go_simp;done)|(go_simp;rfl)) ?aP (λ_ hk=>hk.elim) ?aF ?aO ?aB ?aS ?aL ?_;(case aP=>exact Gl _ _ _ (⟨(Ag l1 a).f0,wrap64 (((Ag l1 a).f1)+(wrap64 ((wrap64 (((Ag l0 j).f1)+1))-((Ag l1 0).f1)))),(Ag l1 a).f2⟩:Ba));(case aB=>exact(Ad));(case aF=>exact(λk_ hk=>Kd.EB (g:=i) (o:=.cells #[.int .i64 ((Ag l1 a).f0),.int .i64 (wrap64 (((Ag l1 a).f1)+(wrap64 ((wrap64 (((Ag l0 j).f1)+1))-((Ag l1 0).f1))))),.string ((Ag l1 a).f2)] 68 (0,0)) (by(with_reducible repeat(first|refine E6 ?_ _|refine DA ?_|refine Eb ?_ _));refine Bw (cs:=#[.int .i64 ((Ag l1 a).f0),.int .i64 ((Ag l1 a).f1),.string ((Ag l1 a).f2)]) ?_ 1 _ rfl;(with_reducible repeat(first|refine E6 ?_ _|refine DA ?_|refine Eb ?_ _));refine Bw (cs:=#[.int .i64 ((Ag l1 a).f0),.int .i64 ((Ag l1 a).f1),.string (⟨#[]⟩:ByteArray)]) ?_ 2 _ rfl;(with_reducible repeat(first|refine E6 ?_ _|refine DA ?_|refine Eb ?_ _));refine Bw (cs:=#[.int .i64 ((Ag l1 a).f0),.int .i64 0,.string (⟨#[]⟩:ByteArray)]) ?_ 1 _ rfl;(with_reducible repeat(first|refine E6 ?_ _|refine DA ?_|refine Eb ?_ _));refine Bw (cs:=#[.int .i64 0,.int .i64 0,.string (⟨#[]⟩:ByteArray)]) ?_ 0 _ rfl;(with_reducible repeat(first|refine E6 ?_ _|refine DA ?_|refine Eb ?_ _));exact L.o) k_ hk));(case aO=>exact(by(with_reducible repeat(first|apply Kd.R_alloc|apply Kd.An|apply Kd.As));exact Kd.Aj (Kd.CQ (p:=⟨i,1,none⟩) (L6 (g:=i) (Kd.Aj E.o (λk_ hk=>(⟨hk,hk.2⟩:_∧k_≠i))) (λ_ hk=>hk.2) (.int .i64 ((Ag l1 a).f0)) (.int .i64 ((Ag l1 a).f1)) (.string ((Ag l1 a).f2))) (λ_ hk=>hk.2) (.int .i64 (wrap64 (((Ag l1 a).f1)+(wrap64 ((wrap64 (((Ag l0 j).f1)+1))-((Ag l1 0).f1))))))) (λ_ hk=>hk.1.2)));(case aS=>exact(Ab (Ad)));(case aL=>have:=bq.o;omega);intro cA cF ho hb hg aD;rw[<-bw.o]at ho;have bl:=a_ (ho);replace L:=a_ (AJ (g:=i) (o:=.cells #[.int .i64 ((Ag l1 a).f0),.int .i64 (wrap64 (((Ag l1 a).f1)+(wrap64 ((wrap64 (((Ag l0 j).f1)+1))-((Ag l1 0).f1))))),.string ((Ag l1 a).f2)] 68 (0,0)) (by(with_reducible repeat(first|refine E6 ?_ _|refine DA ?_|refine Eb ?_ _));refine Bw (cs:=#[.int .i64 ((Ag l1 a).f0),.int .i64 ((Ag l1 a).f1),.string ((Ag l1 a).f2)]) ?_ 1 _ rfl;(with_reducible repeat(first|refine E6 ?_ _|refine DA ?_|refine Eb ?_ _));refine Bw (cs:=#[.int .i64 ((Ag l1 a).f0),.int .i64 ((Ag l1 a).f1),.string (⟨#[]⟩:ByteArray)]) ?_ 2 _ rfl;(with_reducible repeat(first|refine E6 ?_ _|refine DA ?_|refine Eb ?_ _));refine Bw (cs:=#[.int .i64 ((Ag l1 a).f0),.int .i64 0,.string (⟨#[]⟩:ByteArray)]) ?_ 1 _ rfl;(with_reducible repeat(first|refine E6 ?_ _|refine DA ?_|refine Eb ?_ _));refine Bw (cs:=#[.int .i64 0,.int .i64 0,.string (⟨#[]⟩:ByteArray)]) ?_ 0 _ rfl;(with_reducible repeat(first|refine E6 ?_ _|refine DA ?_|refine Eb ?_ _));exact L.o) hg (Kd.Hq E.o (λ_ hk=>hk.2)));replace HB:=a_ (hb);clear E;clear ho hb hg aD))
             go_roundg k2
             case measure=>have:=bJ.o;have:=bK.o;omega
             case rel=>exact⟨(bh),(wrap64 (a+1)),(Cr),H',⟨by have:=bJ.o;have:=bK.o;omega⟩,⟨by(with_reducible repeat(first|apply Kd.R_alloc|apply Kd.An|apply Kd.As));exact Kd.Aj bl.o (λ_ hk=>trivial)⟩,⟨Ad⟩⟩
            ·rw[if_neg aX]at H
             exact absurd H (by simp)
           ·rw[if_neg aW]at H
            exact absurd H (by simp)
          ·rw[if_neg au]at H
           have bE:decide (a<(l1.length:Int))=false:=C1 au
           clear au
           by_cases aA:0≤d
           ·rw[if_pos aA]at H
            have cf:=eq_true aA
            have cg:decide (0≤d)=true:=BJ aA
            clear aA
            by_cases aC:d≤(l0.length:Int)
            ·rw[if_pos aC]at H
             have cj:=eq_true aC
             have ck:decide (d≤(l0.length:Int))=true:=BJ aC
             clear aC
             obtain⟨D,X⟩:∃y_:List (Ba),y_=(l0.drop (d:Int).toNat):=⟨_,rfl⟩
             replace H:(if u.length+D.length<4398046511104 then(some (u++D))else(none))=some r:=by first|(rw[X];with_reducible exact H)|(have t:=(Option.bind_some _ _).symm.trans H;rw[X];with_reducible exact t)|(have t:=(Option.bind_some _ _).symm.trans H;with_reducible exact t)|with_reducible exact H|(rw[X];exact H)|exact H
             have ay:=a_ X
             clear X
             by_cases aY:u.length+D.length<4398046511104
             ·rw[if_pos aY]at H
              have br:=a_ aY
              clear aY
              obtain⟨bT,Y⟩:∃y_:List (Ba),y_=(u++D):=⟨_,rfl⟩
              replace H:(some bT)=some r:=by first|(rw[Y];with_reducible exact H)|(have t:=(Option.bind_some _ _).symm.trans H;rw[Y];with_reducible exact t)|(have t:=(Option.bind_some _ _).symm.trans H;with_reducible exact t)|with_reducible exact H|(rw[Y];exact H)|exact H
              have bx:=a_ Y
              clear Y
              obtain rfl:=C5 H
              have bH:(d:Int)≤((l0.length:Int):Int):=Bu
              obtain⟨cy,aH,_,aJ,_⟩:=info_parts EC
              have M:l0.length≤c0:=al.o
              have bc:Kd.C Dj _ (some A) l0.length l0:=aa.o
              have bQ:(0:Int)≤(d:Int):=Bu
              have a0:=F_ (P:=Tryd.prog) 23 68 .i64 Tryd.underlying23 aH 3 aJ (some A) l0.length c0 d bQ bH
              have ag:=Kd.Ji (m:=(d:Int).toNat) (c:=c0) bc (by omega) M
              obtain⟨bW,hA29⟩:∃A1,A1=(if c0=(d:Int).toNat then(some A)else((some A):Option Addr).map (·.add ((d:Int).toNat*3))):=⟨_,rfl⟩
              obtain⟨cl,aE⟩:∃c1,c1=c0-(d:Int).toNat:=⟨_,rfl⟩
              have ao:D.length=l0.length-(d:Int).toNat:=(by rw[ay.o,List.length_drop] <;> omega)
              rw[show(l0).drop (d:Int).toNat=D from ay.o.symm]at ag
              replace ag:Kd.C Dj _ bW D.length D:=(by rw[hA29];exact ag)
              rw[<-ao,<-hA29,<-aE]at a0
              have bo:=a_ ag
              have b6:=a_ (show D.length≤cl from by rw[ao,aE];exact Nat.sub_le_sub_right M _)
              clear ag bc M aH aJ aE
              have cr:=a_ ao
              have cp:=a_ hA29
              clear ao hA29
              replace bH:=eq_true bH
              go_wp2_with(first|((with_reducible refine Bt (b:=.append) (xs:=#[.tmp 62,.tmp 65]) rfl ?_);at_builtin;refine Kd.Co Dj (w0:=w) w.heap.size rfl (.tmp 62) (.tmp 65) 23 68 (.agg #[(.int .i64 0),(.int .i64 0),(.string ⟨#[]⟩)]) 32 rfl Tryd.underlying23 EC rfl (by decide) (by omega) u12 u D _ _ _ (λ_=>True) (λ_=>False) rfl rfl ?aO ?aR (λ_ _ h=>h) (λ_ h=>h.elim) ?aF ?aB ?aS ?aL ?_;(case aR=>exact Ft (Kd.Ct bo.o HB.o));(case aB=>exact(Ad));(case aF=>exact(λ_ _=>trivial));(case aO=>exact(BC E.o));(case aS=>exact(Ab (Ad)));(case aL=>have:=br.o;omega);intro cB cG ho hb hg aD;rw[<-bx.o]at ho;replace HB:=a_ (hb);have bm:=a_ (ho);clear E;clear ho hb hg aD))
              go_ret
              exact⟨_,C_,by(with_reducible repeat(first|apply Kd.R_alloc|apply Kd.An|apply Kd.As));exact bm.o,Ad⟩
             ·rw[if_neg aY]at H
              exact absurd H (by simp)
            ·rw[if_neg aC]at H
             exact absurd H (by simp)
           ·rw[if_neg aA]at H
            exact absurd H (by simp)
       ·rw[if_neg az]at H
        exact absurd H (by simp)
      ·rw[if_neg ar]at H
       exact absurd H (by simp)
     ·rw[if_neg aq]at H
      exact absurd H (by simp)
   rw[if_neg c8]at H;exact absurd H (by simp)
  rw[if_neg c7]at H;exact absurd H (by simp)
 rw[if_neg c6]at H;exact absurd H (by simp)
def Bz.f(k:Nat)(l0:List (Ba))(e:Int)(g:Int)(t:Int)(u:Int)(i:ByteArray):Option ((List (Ba))):=(Bd.f k l0 g).bind λa=>(if e=2 then((some (([]:List (Ba)):List (Ba))).bind λj=>(if j.length+l0.length<4398046511104 then((some (j++l0:List (Ba))).bind λd=>(if a≥0 then(if 0≤a then(if a<(d.length:Int)then(some (d.set (a:Int).toNat (⟨(Ag d a).f0,(Ag d a).f1,i⟩:Ba)))else(none))else(none))else(some d)))else(none)))else((AV.f k l0 e g t u i).bind λb=>(if b.2.2=true then(if e=1 then((AX.f k l0 (([(⟨g,0,i⟩:Ba)]:List (Ba))) b.1 b.2.1).bind λv=>(some v))else((Br.f k l0 a).bind λc=>((some (([]:List (Ba)):List (Ba))).bind λm=>(if 0≤a then(if a≤c then(if c≤(l0.length:Int)then((some ((l0.take (c:Int).toNat).drop (a:Int).toNat:List (Ba))).bind λn=>(if m.length+n.length<4398046511104 then((some (([]:List (Ba)):List (Ba))).bind λo=>(if a≤(l0.length:Int)then((some (l0.take (a:Int).toNat:List (Ba))).bind λp=>(if o.length+p.length<4398046511104 then((some (o++p:List (Ba))).bind λq=>(if 0≤c then((some (l0.drop (c:Int).toNat:List (Ba))).bind λr=>(if q.length+r.length<4398046511104 then((AX.f k (q++r) (m++n) b.1 b.2.1).bind λw=>(some w))else(none)))else(none)))else(none)))else(none)))else(none)))else(none))else(none))else(none)))))else((some (([]:List (Ba)):List (Ba))).bind λl=>(if l.length+l0.length<4398046511104 then(some (l++l0))else(none))))))
def Bz.Ol:Bool×List (List Nat×List Nat):=(true,[([],[]),([],[]),([],[]),([1,2],[1,2]),([0,3],[0,3]),([],[]),([],[]),([5,6],[5,6]),([4,7,4],[4,7]),([8,8,0,1,2,3,4,5,6,7,8],[8])])
def Bz.PF:List Nat:=[0,0,0,6,15,0,0,96,255,511]
theorem Bz.Jd:ED .any (opsOf Tryd.f45 14)=Bz.Ol:=by kernel_rfl
theorem Bz.Hs:DU Bz.Ol.2 Bz.PF=true:=by kernel_rfl
theorem Bz.calls(k:Nat)(A0:Option Addr)(c0:Nat)(l0:List (Ba))(x:Int)(l:Int)(I:Int)(J:Int)(u:ByteArray)(r:List (Ba))(w:World)(dk:Kd.C Dj w A0 l0.length l0)(dh:l0.length≤c0)(h:Bz.f k l0 x l I J u=some r) :
  Calls Tryd.prog 45 #[.slice A0 l0.length c0,.agg #[.int .i64 x,.int .i64 l,.int .i64 I,.int .i64 J,.string u]] w λe w'=>∃dr:Value,e=.returned (dr)∧Kd.R Dj 68 w' w.heap.size (λ_=>True) dr r∧Below w.heap.size w w':=by
 have fR:=Tryd.underlying30;have fS:=Tryd.underlying68;have Z:=a_ dk;have af:=a_ dh;clear dk dh;have HB:=a_ (Below.refl w.heap.size w);unfold Bz.f at h;have H:=h;clear h;replace H:=BU H;obtain⟨a,cG,H⟩:=H;try dsimp only at H
 have A3:=a_ cG;clear cG;by_cases c4:x=2
 ·rw[if_pos c4]at H;have cV:(x==2)=true:=beq_iff_eq.mpr c4;have cW:(x != 2)=false:=Ff c4;clear c4;obtain⟨aI,an⟩:∃y_:List (Ba),y_=(([]:List (Ba))):=⟨_,rfl⟩
  replace H:(if aI.length+l0.length<4398046511104 then((some (aI++l0:List (Ba))).bind λA=>(if a≥0 then(if 0≤a then(if a<(A.length:Int)then(some (A.set (a:Int).toNat (⟨(Ag A a).f0,(Ag A a).f1,u⟩:Ba)))else(none))else(none))else(some A)))else(none))=some r:=by first|(rw[an];with_reducible exact H)|(have q:=(Option.bind_some _ _).symm.trans H;rw[an];with_reducible exact q)|(have q:=(Option.bind_some _ _).symm.trans H;with_reducible exact q)|with_reducible exact H|(rw[an];exact H)|exact H
  have aM:=a_ an;clear an;by_cases c5:aI.length+l0.length<4398046511104
  ·rw[if_pos c5]at H;have b8:=a_ c5;clear c5;obtain⟨A,ao⟩:∃y_:List (Ba),y_=(aI++l0):=⟨_,rfl⟩
   replace H:(if a≥0 then(if 0≤a then(if a<(A.length:Int)then(some (A.set (a:Int).toNat (⟨(Ag A a).f0,(Ag A a).f1,u⟩:Ba)))else(none))else(none))else(some A))=some r:=by first|(rw[ao];with_reducible exact H)|(have q:=(Option.bind_some _ _).symm.trans H;rw[ao];with_reducible exact q)|(have q:=(Option.bind_some _ _).symm.trans H;with_reducible exact q)|with_reducible exact H|(rw[ao];exact H)|exact H
   have bf:=a_ ao;clear ao;by_cases c6:a≥0
   ·rw[if_pos c6]at H;have cX:decide (0≤a)=true:=BJ c6;clear c6;by_cases c7:0≤a
    ·rw[if_pos c7]at H;have fO:decide (0≤a)=true:=BJ c7;clear c7;by_cases c8:a<(A.length:Int)
     ·rw[if_pos c8]at H;have fP:decide (a<(A.length:Int))=true:=BJ c8;clear c8;obtain⟨cf,aq⟩:∃y_:List (Ba),y_=(A.set (a:Int).toNat (⟨(Ag A a).f0,(Ag A a).f1,u⟩:Ba)):=⟨_,rfl⟩
      replace H:(some cf)=some r:=by first|(rw[aq];with_reducible exact H)|(have q:=(Option.bind_some _ _).symm.trans H;rw[aq];with_reducible exact q)|(have q:=(Option.bind_some _ _).symm.trans H;with_reducible exact q)|with_reducible exact H|(rw[aq];exact H)|exact H
      have ct:=a_ aq;clear aq;obtain rfl:=C5 H;go_enter Tryd.func45,Tryd.ntmps45;go_wp2_with(first|((with_reducible refine Cd (N:=3) rfl ?_);refine CE 3 (#[.int .i64 x,.int .i64 l,.int .i64 I,.int .i64 J,.string u]) 30 ?_;intro z hg bJ X B;have d:=a_ (X);have aK:=a_ ((by rw[hg];exact(Ab (Ad)):w.heap.size≤z));have aJ:=a_ ((by rw[hg];exact(Ab (Ad)):w.heap.size≤z));replace HB:=a_ (BA (Ad) B);clear B X hg;obtain⟨eC,eD,eE,eF,eG,dJ,dK,dL,dM,dN⟩:=Cy d.o)|((with_reducible refine BN (f:=54) rfl ?_);refine BR 16 Tryd.func54 #[.slice A0 l0.length c0,.int .i64 l] ?_;(with_reducible refine(Bd.calls k _ _ l0 l a _ ?q' ?z' A3.o).mono ?_);(case q'=>exact Gt Z.o);(case z'=>exact af.o);rintro e w' ⟨rfl,⟨nd,rfl⟩⟩;refine⟨_,rfl,?_⟩;(try(rw[En bJ];generalize cA:World.drewN bJ _=bJ;replace d:Ae (bJ.heap[z]?=some (.cells #[.int .i64 x,.int .i64 l,.int .i64 I,.int .i64 J,.string u] 30 (0,0))):=⟨by rw[<-cA];exact(Bp d.o)⟩;replace HB:Ae (Below w.heap.size w bJ):=⟨by rw[<-cA];exact(Ad)⟩;clear cA;obtain⟨cQ,cR,cS,cT,cU,cL,cM,cN,cO,cP⟩:=Cy d.o)))|((with_reducible refine Cd (N:=20) rfl ?_);refine Kd.DD Dj _ 68 ?hg (N:=20) ?hd (xs:=([]:List (Ba))) (inner:=[]) (ok:=λ_=>True) (okp:=λ_=>True) ?hr ?hp (λ_ hk=>hk) trivial (Below.refl _ _) (Nat.le_refl _) (by simp) ?_;(case hd=>rfl);(case hg=>rfl);(case hr=>first|(go_simp;done)|(go_simp;rfl));(case hp=>exact(Bi.none _ _));intro bI gg aT B Du W;clear Du W;(first|rw[<-aM.o]at aT|(simp only[Int.reduceToNat]at aT;rw[<-aM.o]at aT));have ab:=a_ (Kd.AN aT (Ab (Ad)));replace HB:=a_ (BA (Ad) B);replace d:=a_ (C3 d.o B);clear B aT)|((with_reducible refine Bt (b:=.append) (xs:=#[.tmp 20,.tmp 21]) rfl ?_);at_builtin;refine Kd.Co Dj (w0:=w) w.heap.size rfl (.tmp 20) (.tmp 21) 23 68 (.agg #[(.int .i64 0),(.int .i64 0),(.string ⟨#[]⟩)]) 32 rfl Tryd.underlying23 EC rfl (by decide) (by omega) bI aI l0 _ _ _ (λ_=>True) (λ_=>False) rfl rfl ?aO ?aR (λ_ _ h=>h) (λ_ h=>h.elim) ?aF ?aB ?aS ?aL ?_;(case aR=>exact Ft (Kd.Ct Z.o HB.o));(case aB=>exact(Ad));(case aF=>exact(λ_ _=>trivial));(case aO=>exact(BC ab.o));(case aS=>exact(Ab (Ad)));(case aL=>have:=b8.o;omega);intro du aP ho B hg ai;rw[<-bf.o]at ho;replace d:=a_ (AJ (g:=z) (o:=.cells #[.int .i64 x,.int .i64 l,.int .i64 I,.int .i64 J,.string u] 30 (0,0)) (Bp d.o) hg (Kd.Ez ab.o d.o (by decide)));replace HB:=a_ (B);have Y:=a_ (ho);clear ab;clear ho B hg ai;obtain⟨eH,eI,eJ,eK,eL,dO,dP,dQ,dR,dS⟩:=Cy d.o;have p9:0≤(a:Int):=Bu;have q9:(a:Int)<((A.length:Int):Int):=Bu;obtain⟨aG,da,de,df,fB,gf,cK⟩:=Kd.Im Y.o (by omega);(first|cases de|(injection de with bR fA fz;(first|subst bR|(injection bR with bR;subst bR));subst fz;clear fA));have dF:=a_ df;have ga:=a_ cK;clear df fB cK;obtain⟨gb,di,dg,a8,a9⟩:=Kd.GG Y.o PE (a:Int) p9 q9;obtain rfl:=I5 dg;have fF:aP.cell? ⟨aG,(a:Int).toNat*3,none⟩=some (.int .i64 ((Ag A a).f0)):=a8 0 _ rfl;have fG:aP.cell? ⟨aG,(a:Int).toNat*3+1,none⟩=some (.int .i64 ((Ag A a).f1)):=a8 1 _ rfl;have fH:aP.cell? ⟨aG,(a:Int).toNat*3+2,none⟩=some (.string ((Ag A a).f2)):=a8 2 _ rfl;have fC:aP.frozen? ⟨aG,(a:Int).toNat*3,none⟩=false:=a9 0;have fD:aP.frozen? ⟨aG,(a:Int).toNat*3+1,none⟩=false:=a9 1;have fE:aP.frozen? ⟨aG,(a:Int).toNat*3+2,none⟩=false:=a9 2;clear di a8 a9 dg;replace p9:=eq_true p9;replace q9:=eq_true q9;have b7:=a_ (show Kd.R Dj 68 aP w.heap.size (λ_=>True) (.slice (some ⟨aG,0,none⟩) A.length da) A from(BC Y.o));obtain⟨fQ,bz,cb,a7,bA⟩:=Kd.GG b7.o PE (a:Int) (Bu) (by have h_:(a:Int)<((A.length:Int):Int):=Bu;first|exact h_|(have e_:=(Kd.AD Y.o).1;omega)|simpa using h_);obtain rfl:=I5 cb;have bc:=Kd.KY b7.o (a:Int) (Bu) (by have h_:(a:Int)<((A.length:Int):Int):=Bu;first|exact h_|(have e_:=(Kd.AD Y.o).1;omega)|simpa using h_) (seg:=[.string u]) (j:=2) bz a7 (show 3≤3 from by decide) (x':=(⟨(Ag A a).f0,(Ag A a).f1,u⟩:Ba)) (Gl _ _ _ (⟨(Ag A a).f0,(Ag A a).f1,u⟩:Ba) ) (λ_ hk=>hk);have bW:=a7 2 _ rfl;(try simp only[show(Dj).sz=3 from rfl,Nat.mul_one,Nat.add_zero]at bW);have bV:=bA 2;(try simp only[show(Dj).sz=3 from rfl,Nat.mul_one,Nat.add_zero]at bV);clear bz a7 bA cb)|((with_reducible refine CS (t:=9) (p:=30) rfl ?_);refine Cx (t:=9) (p:=30) (v:=?m') (w1:=(aP.setCell ⟨aG,(a:Int).toNat*3+2,none⟩ (.string u))) ?hg ?ho ?hn ?hr ?_;(case ho=>rfl);(case hg=>rfl);(case hn=>rfl);(case hr=>first|(go_simp;done)|(go_simp;rfl));intro cF hw;have hg:aP.grownBy cF (some aG):=(by rw[hw];exact bc.2);have dj:Kd.R Dj 68 cF w.heap.size (λ_=>True) (.slice (some ⟨aG,0,none⟩) A.length da) cf:=(by rw[hw,ct.o];exact bc.1);clear bc;replace d:=a_ (AJ (g:=z) (o:=.cells #[.int .i64 x,.int .i64 l,.int .i64 I,.int .i64 J,.string u] 30 (0,0)) (Bp d.o) hg (Kd.Ez Y.o d.o (by decide)));replace Y:=a_ (dj);replace HB:=a_ ((by rw[hw];exact EK (HB.o) dF.o:Below w.heap.size w cF));clear hg hw dj));go_ret;exact⟨_,C_,by(with_reducible repeat(first|apply Kd.R_alloc|apply Kd.An|apply Kd.As));exact Y.o,Ad⟩
     rw[if_neg c8]at H;exact absurd H (by simp)
    rw[if_neg c7]at H;exact absurd H (by simp)
   rw[if_neg c6]at H;have cX:decide (0≤a)=false:=C1 c6;clear c6;obtain rfl:=C5 H;go_enter Tryd.func45,Tryd.ntmps45;go_wp2_with(first|((with_reducible refine Cd (N:=3) rfl ?_);refine CE 3 (#[.int .i64 x,.int .i64 l,.int .i64 I,.int .i64 J,.string u]) 30 ?_;intro z hg gh X B;have d:=a_ (X);have aK:=a_ ((by rw[hg];exact(Ab (Ad)):w.heap.size≤z));have aJ:=a_ ((by rw[hg];exact(Ab (Ad)):w.heap.size≤z));replace HB:=a_ (BA (Ad) B);clear B X hg;obtain⟨eM,eN,eO,eP,eQ,dT,dU,dV,dW,dX⟩:=Cy d.o)|((with_reducible refine BN (f:=54) rfl ?_);refine BR 16 Tryd.func54 #[.slice A0 l0.length c0,.int .i64 l] ?_;(with_reducible refine(Bd.calls k _ _ l0 l a _ ?q' ?z' A3.o).mono ?_);(case q'=>exact Gt Z.o);(case z'=>exact af.o);rintro e w' ⟨rfl,⟨nd,rfl⟩⟩;refine⟨_,rfl,?_⟩)|((with_reducible refine Cd (N:=20) rfl ?_);refine Kd.DD Dj _ 68 ?hg (N:=20) ?hd (xs:=([]:List (Ba))) (inner:=[]) (ok:=λ_=>True) (okp:=λ_=>True) ?hr ?hp (λ_ hk=>hk) trivial (Below.refl _ _) (Nat.le_refl _) (by simp) ?_;(case hd=>rfl);(case hg=>rfl);(case hr=>first|(go_simp;done)|(go_simp;rfl));(case hp=>exact(Bi.none _ _));intro bI gi aU B Du W;clear Du W;(first|rw[<-aM.o]at aU|(simp only[Int.reduceToNat]at aU;rw[<-aM.o]at aU));have ab:=a_ (Kd.AN aU (Ab (Ad)));replace HB:=a_ (BA (Ad) B);replace d:=a_ (C3 d.o B);clear B aU)|((with_reducible refine Bt (b:=.append) (xs:=#[.tmp 20,.tmp 21]) rfl ?_);at_builtin;refine Kd.Co Dj (w0:=w) w.heap.size rfl (.tmp 20) (.tmp 21) 23 68 (.agg #[(.int .i64 0),(.int .i64 0),(.string ⟨#[]⟩)]) 32 rfl Tryd.underlying23 EC rfl (by decide) (by omega) bI aI l0 _ _ _ (λ_=>True) (λ_=>False) rfl rfl ?aO ?aR (λ_ _ h=>h) (λ_ h=>h.elim) ?aF ?aB ?aS ?aL ?_;(case aR=>exact Ft (Kd.Ct Z.o HB.o));(case aB=>exact(Ad));(case aF=>exact(λ_ _=>trivial));(case aO=>exact(BC ab.o));(case aS=>exact(Ab (Ad)));(case aL=>have:=b8.o;omega);intro du gj ho B hg ai;rw[<-bf.o]at ho;replace d:=a_ (AJ (g:=z) (o:=.cells #[.int .i64 x,.int .i64 l,.int .i64 I,.int .i64 J,.string u] 30 (0,0)) (Bp d.o) hg (Kd.Ez ab.o d.o (by decide)));replace HB:=a_ (B);have Y:=a_ (ho);clear ab;clear ho B hg ai));go_ret;exact⟨_,C_,by(with_reducible repeat(first|apply Kd.R_alloc|apply Kd.An|apply Kd.As));exact Y.o,Ad⟩
  rw[if_neg c5]at H;exact absurd H (by simp)
 rw[if_neg c4]at H;have cV:(x==2)=false:=Dq c4;have cW:(x != 2)=true:=bne_iff_ne.mpr c4;replace H:=BU H;obtain⟨⟨O,T,dq⟩,bX,H⟩:=H;try dsimp only at H
 have cg:=a_ bX;clear bX;by_cases bM:dq=true
 ·subst bM;have H1:(if x=1 then((AX.f k l0 (([(⟨l,0,u⟩:Ba)]:List (Ba))) O T).bind λa1=>(some a1))else((Br.f k l0 a).bind λi=>((some (([]:List (Ba)):List (Ba))).bind λaa=>(if 0≤a then(if a≤i then(if i≤(l0.length:Int)then((some ((l0.take (i:Int).toNat).drop (a:Int).toNat:List (Ba))).bind λU=>(if aa.length+U.length<4398046511104 then((some (([]:List (Ba)):List (Ba))).bind λM=>(if a≤(l0.length:Int)then((some (l0.take (a:Int).toNat:List (Ba))).bind λG=>(if M.length+G.length<4398046511104 then((some (M++G:List (Ba))).bind λD=>(if 0≤i then((some (l0.drop (i:Int).toNat:List (Ba))).bind λy=>(if D.length+y.length<4398046511104 then((AX.f k (D++y) (aa++U) O T).bind λL=>(some L))else(none)))else(none)))else(none)))else(none)))else(none)))else(none))else(none))else(none)))))=some r:=by rw[if_pos rfl]at H;exact H
  clear H;have H:=H1;clear H1;by_cases a6:x=1
  ·rw[if_pos a6]at H;have cy:(x==1)=true:=beq_iff_eq.mpr a6;have cz:(x != 1)=false:=Ff a6;clear a6;obtain⟨bK,av⟩:∃y_:List (Ba),y_=(([(⟨l,0,u⟩:Ba)]:List (Ba))):=⟨_,rfl⟩
   replace H:((AX.f k l0 bK O T).bind λa1=>(some a1))=some r:=by first|(rw[av];with_reducible exact H)|(have q:=(Option.bind_some _ _).symm.trans H;rw[av];with_reducible exact q)|(have q:=(Option.bind_some _ _).symm.trans H;with_reducible exact q)|with_reducible exact H|(rw[av];exact H)|exact H
   have bh:=a_ av;clear av;replace H:=BU H;obtain⟨a1,bY,H⟩:=H;try dsimp only at H
   have dA:=a_ bY;clear bY;obtain rfl:=C5 H;go_enter Tryd.func45,Tryd.ntmps45;go_wp2_with(first|((with_reducible refine Cd (N:=3) rfl ?_);refine CE 3 (#[.int .i64 x,.int .i64 l,.int .i64 I,.int .i64 J,.string u]) 30 ?_;intro z hg gl X B;have d:=a_ (X);have aK:=a_ ((by rw[hg];exact(Ab (Ad)):w.heap.size≤z));have aJ:=a_ ((by rw[hg];exact(Ab (Ad)):w.heap.size≤z));replace HB:=a_ (BA (Ad) B);clear B X hg;obtain⟨eR,eS,eT,eU,eV,dY,dZ,d_,ea,ec⟩:=Cy d.o)|((with_reducible refine BN (f:=54) rfl ?_);refine BR 16 Tryd.func54 #[.slice A0 l0.length c0,.int .i64 l] ?_;(with_reducible refine(Bd.calls k _ _ l0 l a _ ?q' ?z' A3.o).mono ?_);(case q'=>exact Gt Z.o);(case z'=>exact af.o);rintro e w' ⟨rfl,⟨nd,rfl⟩⟩;refine⟨_,rfl,?_⟩)|((with_reducible refine BN (f:=56) rfl ?_);refine BR 35 Tryd.func56 #[.slice A0 l0.length c0,.agg #[.int .i64 x,.int .i64 l,.int .i64 I,.int .i64 J,.string u]] ?_;(with_reducible refine(AV.calls k _ _ l0 x l I J u O T true _ ?q' ?z' cg.o).mono ?_);(case q'=>repeat(first|exact(Kd.Ct Z.o (Ad))|(with_reducible refine Kd.C_alloc ?_ _)|(with_reducible refine Kd.Cz ?_ _)|(with_reducible refine Kd.C_drew ?_)));(case z'=>exact af.o);rintro e gm ⟨rfl,B⟩;refine⟨_,rfl,?_⟩;replace HB:=a_ (BA (Ad) B);replace d:=a_ (C3 d.o B);(try clear B);obtain⟨eW,eX,eY,eZ,e0,ed,ee,ef,eg,eh⟩:=Cy d.o)|((with_reducible refine Cd (N:=53) rfl ?_);refine Kd.DD Dj _ 68 ?hg (N:=53) ?hd (xs:=([(⟨l,0,u⟩:Ba)]:List (Ba))) (inner:=[.int .i64 l,.int .i64 0,.string u]) (ok:=λ_=>True) (okp:=λ_=>True) ?hr ?hp (λ_ hk=>hk) trivial (Below.refl _ _) (Nat.le_refl _) (by simp) ?_;(case hd=>rfl);(case hg=>rfl);(case hr=>first|(go_simp;done)|(go_simp;rfl));(case hp=>exact(Bi.c3 (show Kd.M Dj _ _ _ (⟨l,0,u⟩:Ba) [.int .i64 l,.int .i64 0,.string u]from(Gl _ _ _ (⟨l,0,u⟩:Ba) )) (Bi.none _ _)));intro fX gn aV B Du W;clear Du W;(first|rw[<-bh.o]at aV|(simp only[Int.reduceToNat]at aV;rw[<-bh.o]at aV));have ag:=a_ (Kd.AN aV (Ab (Ad)));replace HB:=a_ (BA (Ad) B);replace d:=a_ (C3 d.o B);clear B aV;obtain⟨cH,cY,db⟩:=Kd.Bg ag.o;subst db)|((with_reducible refine BN (f:=57) rfl ?_);refine BR 56 Tryd.func57 #[.slice A0 l0.length c0,.slice cH bK.length cY,.int .i64 O,.int .i64 T] ?_;(with_reducible refine(AX.calls k _ _ l0 _ _ bK O T a1 _ ?q' ?z' ?y' ?v' dA.o).mono ?_);(case q'=>exact Gt Z.o);(case z'=>exact af.o);(case y'=>exact Ft (Kd.AD ag.o).2.2);(case v'=>exact(Kd.AD ag.o).2.1);rintro e gp ⟨fY,rfl,aQ,B⟩;refine⟨_,rfl,?_⟩;have ck:=a_ (Kd.AN (Kd.DC aQ (Kd.DQ (BC ag.o))) (Ab (Ad)));replace ag:=a_ (Kd.CB (BC ag.o) (Kd.BO aQ) B);replace HB:=a_ (BA (Ad) B);replace d:=a_ (C3 d.o B);(try clear B aQ)));go_ret;exact⟨_,C_,by(with_reducible repeat(first|apply Kd.R_alloc|apply Kd.An|apply Kd.As));exact Kd.Aj ck.o (λ_ hk=>trivial),Ad⟩
  rw[if_neg a6]at H;have cy:(x==1)=false:=Dq a6;have cz:(x != 1)=true:=bne_iff_ne.mpr a6;replace H:=BU H;obtain⟨i,bZ,H⟩:=H;try dsimp only at H
  have dB:=a_ bZ;clear bZ;obtain⟨aa,aw⟩:∃y_:List (Ba),y_=(([]:List (Ba))):=⟨_,rfl⟩
  replace H:(if 0≤a then(if a≤i then(if i≤(l0.length:Int)then((some ((l0.take (i:Int).toNat).drop (a:Int).toNat:List (Ba))).bind λU=>(if aa.length+U.length<4398046511104 then((some (([]:List (Ba)):List (Ba))).bind λM=>(if a≤(l0.length:Int)then((some (l0.take (a:Int).toNat:List (Ba))).bind λG=>(if M.length+G.length<4398046511104 then((some (M++G:List (Ba))).bind λD=>(if 0≤i then((some (l0.drop (i:Int).toNat:List (Ba))).bind λy=>(if D.length+y.length<4398046511104 then((AX.f k (D++y) (aa++U) O T).bind λL=>(some L))else(none)))else(none)))else(none)))else(none)))else(none)))else(none))else(none))else(none))=some r:=by first|(rw[aw];with_reducible exact H)|(have q:=(Option.bind_some _ _).symm.trans H;rw[aw];with_reducible exact q)|(have q:=(Option.bind_some _ _).symm.trans H;with_reducible exact q)|with_reducible exact H|(rw[aw];exact H)|exact H
  have bj:=a_ aw;clear aw;by_cases bo:0≤a
  ·rw[if_pos bo]at H;have fi:=eq_true bo;have fj:decide (0≤a)=true:=BJ bo;clear bo;by_cases bp:a≤i
   ·rw[if_pos bp]at H;have fk:=eq_true bp;have fl:decide (a≤i)=true:=BJ bp;clear bp;by_cases bq:i≤(l0.length:Int)
    ·rw[if_pos bq]at H;have fm:=eq_true bq;have fo:decide (i≤(l0.length:Int))=true:=BJ bq;clear bq;obtain⟨U,ax⟩:∃y_:List (Ba),y_=((l0.take (i:Int).toNat).drop (a:Int).toNat):=⟨_,rfl⟩
     replace H:(if aa.length+U.length<4398046511104 then((some (([]:List (Ba)):List (Ba))).bind λM=>(if a≤(l0.length:Int)then((some (l0.take (a:Int).toNat:List (Ba))).bind λG=>(if M.length+G.length<4398046511104 then((some (M++G:List (Ba))).bind λD=>(if 0≤i then((some (l0.drop (i:Int).toNat:List (Ba))).bind λy=>(if D.length+y.length<4398046511104 then((AX.f k (D++y) (aa++U) O T).bind λL=>(some L))else(none)))else(none)))else(none)))else(none)))else(none))=some r:=by first|(rw[ax];with_reducible exact H)|(have q:=(Option.bind_some _ _).symm.trans H;rw[ax];with_reducible exact q)|(have q:=(Option.bind_some _ _).symm.trans H;with_reducible exact q)|with_reducible exact H|(rw[ax];exact H)|exact H
     have bk:=a_ ax;clear ax;by_cases bN:aa.length+U.length<4398046511104
     ·rw[if_pos bN]at H;have cn:=a_ bN;clear bN;obtain⟨ak,ay⟩:∃y_:List (Ba),y_=(aa++U):=⟨_,rfl⟩
      replace H:((some (([]:List (Ba)):List (Ba))).bind λM=>(if a≤(l0.length:Int)then((some (l0.take (a:Int).toNat:List (Ba))).bind λG=>(if M.length+G.length<4398046511104 then((some (M++G:List (Ba))).bind λD=>(if 0≤i then((some (l0.drop (i:Int).toNat:List (Ba))).bind λy=>(if D.length+y.length<4398046511104 then((AX.f k (D++y) ak O T).bind λL=>(some L))else(none)))else(none)))else(none)))else(none)))=some r:=by first|(rw[ay];with_reducible exact H)|(have q:=(Option.bind_some _ _).symm.trans H;rw[ay];with_reducible exact q)|(have q:=(Option.bind_some _ _).symm.trans H;with_reducible exact q)|with_reducible exact H|(rw[ay];exact H)|exact H
      have cv:=a_ ay;clear ay;obtain⟨M,az⟩:∃y_:List (Ba),y_=(([]:List (Ba))):=⟨_,rfl⟩
      replace H:(if a≤(l0.length:Int)then((some (l0.take (a:Int).toNat:List (Ba))).bind λG=>(if M.length+G.length<4398046511104 then((some (M++G:List (Ba))).bind λD=>(if 0≤i then((some (l0.drop (i:Int).toNat:List (Ba))).bind λy=>(if D.length+y.length<4398046511104 then((AX.f k (D++y) ak O T).bind λL=>(some L))else(none)))else(none)))else(none)))else(none))=some r:=by first|(rw[az];with_reducible exact H)|(have q:=(Option.bind_some _ _).symm.trans H;rw[az];with_reducible exact q)|(have q:=(Option.bind_some _ _).symm.trans H;with_reducible exact q)|with_reducible exact H|(rw[az];exact H)|exact H
      have bl:=a_ az;clear az;have fp:=eq_true (Bu:0≤a);by_cases br:a≤(l0.length:Int)
      ·rw[if_pos br]at H;have fq:=eq_true br;have ft:decide (a≤(l0.length:Int))=true:=BJ br;clear br;obtain⟨G,aA⟩:∃y_:List (Ba),y_=(l0.take (a:Int).toNat):=⟨_,rfl⟩
       replace H:(if M.length+G.length<4398046511104 then((some (M++G:List (Ba))).bind λD=>(if 0≤i then((some (l0.drop (i:Int).toNat:List (Ba))).bind λy=>(if D.length+y.length<4398046511104 then((AX.f k (D++y) ak O T).bind λL=>(some L))else(none)))else(none)))else(none))=some r:=by first|(rw[aA];with_reducible exact H)|(have q:=(Option.bind_some _ _).symm.trans H;rw[aA];with_reducible exact q)|(have q:=(Option.bind_some _ _).symm.trans H;with_reducible exact q)|with_reducible exact H|(rw[aA];exact H)|exact H
       have bm:=a_ aA;clear aA;by_cases bO:M.length+G.length<4398046511104
       ·rw[if_pos bO]at H;have cp:=a_ bO;clear bO;obtain⟨D,aC⟩:∃y_:List (Ba),y_=(M++G):=⟨_,rfl⟩
        replace H:(if 0≤i then((some (l0.drop (i:Int).toNat:List (Ba))).bind λy=>(if D.length+y.length<4398046511104 then((AX.f k (D++y) ak O T).bind λL=>(some L))else(none)))else(none))=some r:=by first|(rw[aC];with_reducible exact H)|(have q:=(Option.bind_some _ _).symm.trans H;rw[aC];with_reducible exact q)|(have q:=(Option.bind_some _ _).symm.trans H;with_reducible exact q)|with_reducible exact H|(rw[aC];exact H)|exact H
        have cw:=a_ aC;clear aC;by_cases bu:0≤i
        ·rw[if_pos bu]at H;have fu:=eq_true bu;have fv:decide (0≤i)=true:=BJ bu;clear bu;have fw:=eq_true (Bu:i≤(l0.length:Int));obtain⟨y,aD⟩:∃y_:List (Ba),y_=(l0.drop (i:Int).toNat):=⟨_,rfl⟩
         replace H:(if D.length+y.length<4398046511104 then((AX.f k (D++y) ak O T).bind λL=>(some L))else(none))=some r:=by first|(rw[aD];with_reducible exact H)|(have q:=(Option.bind_some _ _).symm.trans H;rw[aD];with_reducible exact q)|(have q:=(Option.bind_some _ _).symm.trans H;with_reducible exact q)|with_reducible exact H|(rw[aD];exact H)|exact H
         have bn:=a_ aD;clear aD;by_cases bP:D.length+y.length<4398046511104
         ·rw[if_pos bP]at H;have cq:=a_ bP;clear bP;obtain⟨bL,aE⟩:∃y_:List (Ba),y_=(D++y):=⟨_,rfl⟩
          replace H:((AX.f k bL ak O T).bind λL=>(some L))=some r:=by first|(rw[aE];with_reducible exact H)|(have q:=(Option.bind_some _ _).symm.trans H;rw[aE];with_reducible exact q)|(have q:=(Option.bind_some _ _).symm.trans H;with_reducible exact q)|with_reducible exact H|(rw[aE];exact H)|exact H
          have cx:=a_ aE;clear aE;replace H:=BU H;obtain⟨L,b6,H⟩:=H;try dsimp only at H
          have dC:=a_ b6;clear b6;obtain rfl:=C5 H;go_enter Tryd.func45,Tryd.ntmps45;try go_wp2_with(first|((with_reducible refine Cd (N:=3) rfl ?_);refine CE 3 (#[.int .i64 x,.int .i64 l,.int .i64 I,.int .i64 J,.string u]) 30 ?_;intro z hg gq X B;have d:=a_ (X);have aK:=a_ ((by rw[hg];exact(Ab (Ad)):w.heap.size≤z));have aJ:=a_ ((by rw[hg];exact(Ab (Ad)):w.heap.size≤z));replace HB:=a_ (BA (Ad) B);clear B X hg;obtain⟨e1,e2,e3,e4,e5,ei,ej,ek,en,eo⟩:=Cy d.o)|((with_reducible refine BN (f:=54) rfl ?_);refine BR 16 Tryd.func54 #[.slice A0 l0.length c0,.int .i64 l] ?_;(with_reducible refine(Bd.calls k _ _ l0 l a _ ?q' ?z' A3.o).mono ?_);(case q'=>exact Gt Z.o);(case z'=>exact af.o);rintro e w' ⟨rfl,⟨nd,rfl⟩⟩;refine⟨_,rfl,?_⟩)|((with_reducible refine BN (f:=56) rfl ?_);refine BR 35 Tryd.func56 #[.slice A0 l0.length c0,.agg #[.int .i64 x,.int .i64 l,.int .i64 I,.int .i64 J,.string u]] ?_;(with_reducible refine(AV.calls k _ _ l0 x l I J u O T true _ ?q' ?z' cg.o).mono ?_);(case q'=>repeat(first|exact(Kd.Ct Z.o (Ad))|(with_reducible refine Kd.C_alloc ?_ _)|(with_reducible refine Kd.Cz ?_ _)|(with_reducible refine Kd.C_drew ?_)));(case z'=>exact af.o);rintro e gr ⟨rfl,B⟩;refine⟨_,rfl,?_⟩;replace HB:=a_ (BA (Ad) B);replace d:=a_ (C3 d.o B);(try clear B);obtain⟨e6,e7,e8,e9,fa,ep,er,et,eu,ev⟩:=Cy d.o)|((with_reducible refine BN (f:=55) rfl ?_);refine BR 59 Tryd.func55 #[.slice A0 l0.length c0,.int .i64 a] ?_;(with_reducible refine(Br.calls k _ _ l0 a i _ ?q' ?z' dB.o).mono ?_);(case q'=>exact Gt Z.o);(case z'=>exact af.o);rintro e w' ⟨rfl,⟨nd,rfl⟩⟩;refine⟨_,rfl,?_⟩)|((with_reducible refine Cd (N:=60) rfl ?_);refine Kd.DD Dj _ 68 ?hg (N:=60) ?hd (xs:=([]:List (Ba))) (inner:=[]) (ok:=λ_=>True) (okp:=λ_=>True) ?hr ?hp (λ_ hk=>hk) trivial (Below.refl _ _) (Nat.le_refl _) (by simp) ?_;(case hd=>rfl);(case hg=>rfl);(case hr=>first|(go_simp;done)|(go_simp;rfl));(case hp=>exact(Bi.none _ _));intro dw gu aW B Du W;clear Du W;(first|rw[<-bj.o]at aW|(simp only[Int.reduceToNat]at aW;rw[<-bj.o]at aW));have a3:=a_ (Kd.AN aW (Ab (Ad)));replace HB:=a_ (BA (Ad) B);replace d:=a_ (C3 d.o B);clear B aW;have cC:(i:Int)≤((l0.length:Int):Int):=Bu;obtain⟨fT,bB,_,bF,_⟩:=info_parts EC;have ae:l0.length≤c0:=af.o;have b9:Kd.C Dj _ A0 l0.length l0:=Z.o;have dp:(a:Int)≤(i:Int):=Bu;have dm:(0:Int)≤(a:Int):=Bu;have bS:=Lc (P:=Tryd.prog) 23 68 .i64 .i64 Tryd.underlying23 bB 3 bF A0 l0.length c0 a i dm dp cC ae;have aY:=Kd.Ob (lo:=(a:Int).toNat) (hi:=(i:Int).toNat) (c:=c0) b9 (by omega) (by omega) ae;obtain⟨dD,hA53⟩:∃A1,A1=(if c0=(a:Int).toNat then A0 else(A0:Option Addr).map (·.add ((a:Int).toNat*3))):=⟨_,rfl⟩;obtain⟨fx,bw⟩:∃c1,c1=c0-(a:Int).toNat:=⟨_,rfl⟩;have ba:U.length=(i:Int).toNat-(a:Int).toNat:=(by rw[bk.o,List.length_drop,List.length_take] <;> omega);rw[show((l0).take (i:Int).toNat).drop (a:Int).toNat=U from bk.o.symm]at aY;replace aY:Kd.C Dj _ dD U.length U:=(by rw[hA53];exact aY);rw[<-ba,<-hA53,<-bw]at bS;have cm:=a_ aY;have dG:=a_ (show U.length≤fx from by rw[ba,bw];exact Nat.sub_le_sub_right (Nat.le_trans (by omega) ae) _);clear aY b9 ae bB bF bw;have fL:=a_ ba;have fJ:=a_ hA53;clear ba hA53;replace cC:=eq_true cC)|((with_reducible refine Bt (b:=.append) (xs:=#[.tmp 60,.tmp 64]) rfl ?_);at_builtin;refine Kd.Co Dj (w0:=w) w.heap.size rfl (.tmp 60) (.tmp 64) 23 68 (.agg #[(.int .i64 0),(.int .i64 0),(.string ⟨#[]⟩)]) 32 rfl Tryd.underlying23 EC rfl (by decide) (by omega) dw aa U _ _ _ (λ_=>True) (λ_=>False) rfl rfl ?aO ?aR (λ_ _ h=>h) (λ_ h=>h.elim) ?aF ?aB ?aS ?aL ?_;(case aR=>exact Ft (Kd.Ct cm.o HB.o));(case aB=>exact(Ad));(case aF=>exact(λ_ _=>trivial));(case aO=>exact(BC a3.o));(case aS=>exact(Ab (Ad)));(case aL=>have:=cn.o;omega);intro cd fI ho B hg ai;rw[<-cv.o]at ho;replace d:=a_ (AJ (g:=z) (o:=.cells #[.int .i64 x,.int .i64 l,.int .i64 I,.int .i64 J,.string u] 30 (0,0)) (Bp d.o) hg (Kd.Ez a3.o d.o (by decide)));replace HB:=a_ (B);have E:=a_ (ho);clear a3;clear ho B hg ai))
          replace E:=a_ (Kd.As E.o);replace d:=a_ (DA d.o);replace HB:=a_ (Ay HB.o);have cD:(a:Int)≤((l0.length:Int):Int):=Bu;obtain⟨fU,bC,_,cB,_⟩:=info_parts EC;have a0:l0.length≤c0:=af.o;have b_:Kd.C Dj _ A0 l0.length l0:=Z.o;have bT:=GJ (P:=Tryd.prog) 23 68 .i64 Tryd.underlying23 bC A0 l0.length c0 a (Bu) cD a0;have bE:=Kd.GB (m:=(a:Int).toNat) b_ (by omega);have bH:G.length=(a:Int).toNat:=(by rw[bm.o,List.length_take];omega)
          rw[<-bm.o]at bE;rw[<-bH]at bT;have bd:=a_ bE;have dH:=a_ (show G.length≤c0 from by omega);clear bE b_ a0 bC cB;have fM:=a_ bH;clear bH;replace cD:=eq_true cD;have cE:(i:Int)≤((l0.length:Int):Int):=Bu;obtain⟨fV,bD,_,bG,_⟩:=info_parts EC;have al:l0.length≤c0:=af.o;have ca:Kd.C Dj _ A0 l0.length l0:=Z.o;have dn:(0:Int)≤(i:Int):=Bu;have bU:=F_ (P:=Tryd.prog) 23 68 .i64 Tryd.underlying23 bD 3 bG A0 l0.length c0 i dn cE;have aZ:=Kd.Ji (m:=(i:Int).toNat) (c:=c0) ca (by omega) al;obtain⟨dE,hA57⟩:∃A1,A1=(if c0=(i:Int).toNat then A0 else(A0:Option Addr).map (·.add ((i:Int).toNat*3))):=⟨_,rfl⟩
          obtain⟨fy,bx⟩:∃c1,c1=c0-(i:Int).toNat:=⟨_,rfl⟩
          have bb:y.length=l0.length-(i:Int).toNat:=(by rw[bn.o,List.length_drop] <;> omega)
          rw[show(l0).drop (i:Int).toNat=y from bn.o.symm]at aZ;replace aZ:Kd.C Dj _ dE y.length y:=(by rw[hA57];exact aZ)
          rw[<-bb,<-hA57,<-bx]at bU;have be:=a_ aZ;have dI:=a_ (show y.length≤fy from by rw[bb,bx];exact Nat.sub_le_sub_right al _);clear aZ ca al bD bG bx;have fN:=a_ bb;have fK:=a_ hA57;clear bb hA57;replace cE:=eq_true cE;refine Ch (n:=10) (S:=λw'=>True) (ds:=[]) #[false,false,false,false,false,false,false,false,false,false] (by kernel_rfl) rfl rfl trivial (λaN=>?_);refine BZ Bz.Jd Bz.Hs (λHT_ HW_=>?_);generalize fI.drew=gv at E d HB bd be aN⊢;refine A_ 1 67 ?_;refine A_ 2 68 ?_;refine A_ 3 69 ?_;refine A_ 5 71 ?_;refine A_ 6 72 ?_;refine A_ 7 73 ?_;refine EU 0 66 (λK hK=>?_);refine Kd.CR Dj _ 68 ?hg (N:=66) ?hd (xs:=([]:List (Ba))) (inner:=[]) (ok:=λ_=>True) (okp:=λ_=>True) ?hr ?hp (λ_ hk=>hk) trivial (Below.refl _ _) (Nat.le_refl _) (by simp) ?_;(case hd=>rfl);(case hg=>rfl);(case hr=>first|(go_simp;done)|(go_simp;rfl));(case hp=>exact(Bi.none _ _));intro dx gw aH B Du W;clear Du W;(first|rw[<-bl.o]at aH|(simp only[Int.reduceToNat]at aH;rw[<-bl.o]at aH));have a4:=a_ (Kd.AN (Kd.DC aH (Kd.DQ (BC E.o))) (Ab (Ad)));replace E:=a_ (Kd.CB (BC E.o) (Kd.BO aH) B);replace HB:=a_ (BA (Ad) B);replace d:=a_ (C3 d.o B);clear B aH;refine hK.out _ _ trivial (λaN=>?_);clear hK K;refine Ea 66 ?_;refine EU 4 70 (λK hK=>?_);refine Kd.Bo Dj (w0:=w) w.heap.size (by rfl) (.tmp 66) (.tmp 69) 23 68 (.agg #[(.int .i64 0),(.int .i64 0),(.string ⟨#[]⟩)]) 32 rfl Tryd.underlying23 EC rfl (by decide) (by omega) dx M G _ _ _ (λk_=>some k_≠(cd:Value).ownBlock) (λ_=>False) rfl rfl ?aO ?aR (λ_ _ h=>h) (λ_ h=>h.elim) ?aF ?aB ?aS ?aL ?_;(case aR=>exact Ft (Kd.Ct bd.o HB.o));(case aB=>exact(Ad));(case aF=>exact(λk_ hk=>Kd.EA (Kd.DQ (BC E.o)) k_ hk));(case aO=>exact(by(with_reducible repeat(first|apply Kd.R_alloc|apply Kd.An|apply Kd.As));exact Kd.Aj a4.o (λ_ hk=>hk.2)));(case aS=>exact(Ab (Ad)));(case aL=>have:=cp.o;omega);intro dy gx ho B hg ai;rw[<-cw.o]at ho;replace d:=a_ (AJ (g:=z) (o:=.cells #[.int .i64 x,.int .i64 l,.int .i64 I,.int .i64 J,.string u] 30 (0,0)) (Bp d.o) hg (Kd.Ez a4.o d.o (by decide)));replace E:=a_ (Kd.Ei (ok:=(λ_=>True)) (BC E.o) hg ai);replace HB:=a_ (B);have a5:=a_ (ho);clear a4;clear ho B hg ai;refine hK.out _ _ trivial (λaN=>?_);clear hK K;refine Ea 70 ?_;refine EU 8 74 (λK hK=>?_);refine Kd.Bo Dj (w0:=w) w.heap.size (by rfl) (.tmp 70) (.tmp 73) 23 68 (.agg #[(.int .i64 0),(.int .i64 0),(.string ⟨#[]⟩)]) 32 rfl Tryd.underlying23 EC rfl (by decide) (by omega) dy D y _ _ _ (λk_=>some k_≠(cd:Value).ownBlock) (λ_=>False) rfl rfl ?aO ?aR (λ_ _ h=>h) (λ_ h=>h.elim) ?aF ?aB ?aS ?aL ?_;(case aR=>exact Ft (Kd.Ct be.o HB.o));(case aB=>exact(Ad));(case aF=>exact(λk_ hk=>Kd.EA (Kd.DQ (BC E.o)) k_ hk));(case aO=>exact(BC a5.o));(case aS=>exact(Ab (Ad)));(case aL=>have:=cq.o;omega);intro fZ gy ho B hg ai;rw[<-cx.o]at ho;replace d:=a_ (AJ (g:=z) (o:=.cells #[.int .i64 x,.int .i64 l,.int .i64 I,.int .i64 J,.string u] 30 (0,0)) (Bp d.o) hg (Kd.Ez a5.o d.o (by decide)));replace E:=a_ (Kd.Ei (ok:=(λ_=>True)) (BC E.o) hg ai);replace HB:=a_ (B);have ah:=a_ (ho);clear a5;clear ho B hg ai;refine hK.out _ _ trivial (λaN=>?_);clear hK K;refine Ea 74 ?_;refine A_ 9 12 ?_;refine CT (CU HT_.o (by kernel_rfl)) ?_;obtain⟨cI,cZ,dc⟩:=Kd.Bg ah.o;subst dc;obtain⟨cJ,c_,dd⟩:=Kd.Bg E.o;subst dd;try go_wp2_with(first|((with_reducible refine BN (f:=57) rfl ?_);refine BR 79 Tryd.func57 #[.slice cI bL.length cZ,.slice cJ ak.length c_,.int .i64 O,.int .i64 T] ?_;(with_reducible refine(AX.calls k _ _ bL _ _ ak O T L _ ?q' ?z' ?y' ?v' dC.o).mono ?_);(case q'=>exact Ft (Kd.AD ah.o).2.2);(case z'=>exact(Kd.AD ah.o).2.1);(case y'=>exact Ft (Kd.AD E.o).2.2);(case v'=>exact(Kd.AD E.o).2.1);rintro e gz ⟨f_,rfl,aQ,B⟩;refine⟨_,rfl,?_⟩;have cl:=a_ (Kd.AN (Kd.DC (Kd.DC aQ (Kd.DQ (BC E.o))) (Kd.DQ (BC ah.o))) (Ab (Ad)));replace E:=a_ (Kd.CB (BC E.o) (Kd.BO aQ) B);replace ah:=a_ (Kd.CB (BC ah.o) (Kd.BO aQ) B);replace HB:=a_ (BA (Ad) B);replace d:=a_ (C3 d.o B);(try clear B aQ)))
          go_ret;exact⟨_,C_,by(with_reducible repeat(first|apply Kd.R_alloc|apply Kd.An|apply Kd.As));exact Kd.Aj cl.o (λ_ hk=>trivial),Ad⟩
         rw[if_neg bP]at H;exact absurd H (by simp)
        rw[if_neg bu]at H;exact absurd H (by simp)
       rw[if_neg bO]at H;exact absurd H (by simp)
      rw[if_neg br]at H;exact absurd H (by simp)
     rw[if_neg bN]at H;exact absurd H (by simp)
    rw[if_neg bq]at H;exact absurd H (by simp)
   rw[if_neg bp]at H;exact absurd H (by simp)
  rw[if_neg bo]at H;exact absurd H (by simp)
 replace bM:=Bool.eq_false_iff.mpr bM;subst bM;have H1:((some (([]:List (Ba)):List (Ba))).bind λaj=>(if aj.length+l0.length<4398046511104 then(some (aj++l0))else(none)))=some r:=by rw[if_neg (show¬ (false=true) by decide)]at H;exact H
 clear H;have H:=H1;clear H1;obtain⟨aj,ar⟩:∃y_:List (Ba),y_=(([]:List (Ba))):=⟨_,rfl⟩
 replace H:(if aj.length+l0.length<4398046511104 then(some (aj++l0))else(none))=some r:=by first|(rw[ar];with_reducible exact H)|(have q:=(Option.bind_some _ _).symm.trans H;rw[ar];with_reducible exact q)|(have q:=(Option.bind_some _ _).symm.trans H;with_reducible exact q)|with_reducible exact H|(rw[ar];exact H)|exact H
 have bg:=a_ ar;clear ar;by_cases bQ:aj.length+l0.length<4398046511104
 ·rw[if_pos bQ]at H;have cr:=a_ bQ;clear bQ;obtain⟨dz,au⟩:∃y_:List (Ba),y_=(aj++l0):=⟨_,rfl⟩
  replace H:(some dz)=some r:=by first|(rw[au];with_reducible exact H)|(have q:=(Option.bind_some _ _).symm.trans H;rw[au];with_reducible exact q)|(have q:=(Option.bind_some _ _).symm.trans H;with_reducible exact q)|with_reducible exact H|(rw[au];exact H)|exact H
  have cu:=a_ au;clear au;obtain rfl:=C5 H;go_enter Tryd.func45,Tryd.ntmps45;go_wp2_with(first|((with_reducible refine Cd (N:=3) rfl ?_);refine CE 3 (#[.int .i64 x,.int .i64 l,.int .i64 I,.int .i64 J,.string u]) 30 ?_;intro z hg gA X B;have d:=a_ (X);have aK:=a_ ((by rw[hg];exact(Ab (Ad)):w.heap.size≤z));have aJ:=a_ ((by rw[hg];exact(Ab (Ad)):w.heap.size≤z));replace HB:=a_ (BA (Ad) B);clear B X hg;obtain⟨fb,fc,fe,fg,fh,ew,ey,ez,eA,eB⟩:=Cy d.o)|((with_reducible refine BN (f:=54) rfl ?_);refine BR 16 Tryd.func54 #[.slice A0 l0.length c0,.int .i64 l] ?_;(with_reducible refine(Bd.calls k _ _ l0 l a _ ?q' ?z' A3.o).mono ?_);(case q'=>exact Gt Z.o);(case z'=>exact af.o);rintro e w' ⟨rfl,⟨nd,rfl⟩⟩;refine⟨_,rfl,?_⟩)|((with_reducible refine BN (f:=56) rfl ?_);refine BR 35 Tryd.func56 #[.slice A0 l0.length c0,.agg #[.int .i64 x,.int .i64 l,.int .i64 I,.int .i64 J,.string u]] ?_;(with_reducible refine(AV.calls k _ _ l0 x l I J u O T false _ ?q' ?z' cg.o).mono ?_);(case q'=>repeat(first|exact(Kd.Ct Z.o (Ad))|(with_reducible refine Kd.C_alloc ?_ _)|(with_reducible refine Kd.Cz ?_ _)|(with_reducible refine Kd.C_drew ?_)));(case z'=>exact af.o);rintro e gB ⟨rfl,B⟩;refine⟨_,rfl,?_⟩;replace HB:=a_ (BA (Ad) B);replace d:=a_ (C3 d.o B);(try clear B))|((with_reducible refine Cd (N:=41) rfl ?_);refine Kd.DD Dj _ 68 ?hg (N:=41) ?hd (xs:=([]:List (Ba))) (inner:=[]) (ok:=λ_=>True) (okp:=λ_=>True) ?hr ?hp (λ_ hk=>hk) trivial (Below.refl _ _) (Nat.le_refl _) (by simp) ?_;(case hd=>rfl);(case hg=>rfl);(case hr=>first|(go_simp;done)|(go_simp;rfl));(case hp=>exact(Bi.none _ _));intro dv gC aX B Du W;clear Du W;(first|rw[<-bg.o]at aX|(simp only[Int.reduceToNat]at aX;rw[<-bg.o]at aX));have a2:=a_ (Kd.AN aX (Ab (Ad)));replace HB:=a_ (BA (Ad) B);replace d:=a_ (C3 d.o B);clear B aX)|((with_reducible refine Bt (b:=.append) (xs:=#[.tmp 41,.tmp 42]) rfl ?_);at_builtin;refine Kd.Co Dj (w0:=w) w.heap.size rfl (.tmp 41) (.tmp 42) 23 68 (.agg #[(.int .i64 0),(.int .i64 0),(.string ⟨#[]⟩)]) 32 rfl Tryd.underlying23 EC rfl (by decide) (by omega) dv aj l0 _ _ _ (λ_=>True) (λ_=>False) rfl rfl ?aO ?aR (λ_ _ h=>h) (λ_ h=>h.elim) ?aF ?aB ?aS ?aL ?_;(case aR=>exact Ft (Kd.Ct Z.o HB.o));(case aB=>exact(Ad));(case aF=>exact(λ_ _=>trivial));(case aO=>exact(BC a2.o));(case aS=>exact(Ab (Ad)));(case aL=>have:=cr.o;omega);intro fW gD ho B hg ai;rw[<-cu.o]at ho;replace d:=a_ (AJ (g:=z) (o:=.cells #[.int .i64 x,.int .i64 l,.int .i64 I,.int .i64 J,.string u] 30 (0,0)) (Bp d.o) hg (Kd.Ez a2.o d.o (by decide)));replace HB:=a_ (B);have cj:=a_ (ho);clear a2;clear ho B hg ai));go_ret;exact⟨_,C_,by(with_reducible repeat(first|apply Kd.R_alloc|apply Kd.An|apply Kd.As));exact cj.o,Ad⟩
 rw[if_neg bQ]at H;exact absurd H (by simp)
end Go.Proofs.YtlhlpfnljglhoaaDoor.P
