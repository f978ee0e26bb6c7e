/- Joined by a program (wip/shake.py): the declarations that 'YtdpklbomhdpimaaDoorCardFnHearAgain' reaches. -/
import Derived.Test.YtdpklbomhdpimaaDoorZLk7
set_option linter.unusedVariables false
set_option linter.unusedSimpArgs false
set_option linter.unusedSectionVars false
set_option maxHeartbeats 8000000
set_option maxRecDepth 100000
namespace Go.Proofs.YtdpklbomhdpimaaDoor.P
open Go.RowKit Go.Proofs.YtdpklbomhdpimaaDoorW.PrintWords Go.Proofs.YtdpklbomhdpimaaDoorW.PrintLast
theorem laws_FnHearAgain.calls (k:Nat) (A0:Option Addr) (c0:Nat) (l0:List Int) (r:Bool) (w:World) (hr0:Kd.C (Kd.int .u8) w A0 l0.length l0) (hc0:l0.length≤c0) (h:laws_FnHearAgain.f k l0=some r) (hG:Glob w) :
  Calls Tryd.prog 7 #[.slice A0 l0.length c0] w fun e w'=>e=.returned (.bool r)∧Below w.heap.size w w':=by
 have hu25:=Tryd.underlying25
 have hu44:=Tryd.underlying44
 have HR0:=a_ hr0
 have HC0:=a_ hc0
 clear hr0 hc0
 have HB:=a_ (Below.refl w.heap.size w)
 have HG:=a_ hG
 clear hG
 have H:(if (l0.length:Int) > 1048576 then (some true) else ((spec_DrawServerHear.f k l0).bind fun bt763=>((spec_ServerHear.f k bt763.1 bt763.2.1 bt763.2.2.1 bt763.2.2.2.1 bt763.2.2.2.2.1 bt763.2.2.2.2.2.1 bt763.2.2.2.2.2.2.1 bt763.2.2.2.2.2.2.2.1 bt763.2.2.2.2.2.2.2.2.1 bt763.2.2.2.2.2.2.2.2.2).bind fun bt777=>((impl_ServerHear.f k bt763.1 bt763.2.1 bt763.2.2.1 bt763.2.2.2.1 bt763.2.2.2.2.1 bt763.2.2.2.2.2.1 bt763.2.2.2.2.2.2.1 bt763.2.2.2.2.2.2.2.1 bt763.2.2.2.2.2.2.2.2.1 bt763.2.2.2.2.2.2.2.2.2).bind fun bt784=>(if (bt784.2.2.2 != bt777.2.2.2)=true then (none) else ((laws_lpServer.f k bt784.1 bt784.2.1 bt784.2.2.1 bt777.1 bt777.2.1 bt777.2.2.1).bind fun t791=>(if t791=true then (if bt784.2.2.2=true then ((impl_ServerHear.f k bt784.1 bt784.2.1 bt784.2.2.1 bt763.2.2.2.1 bt763.2.2.2.2.1 bt763.2.2.2.2.2.1 bt763.2.2.2.2.2.2.1 bt763.2.2.2.2.2.2.2.1 bt763.2.2.2.2.2.2.2.2.1 bt763.2.2.2.2.2.2.2.2.2).bind fun bt793=>((impl_ServerSync.f k bt784.1 bt784.2.1 bt784.2.2.1).bind fun bt800=>((impl_ServerFall.f k bt800.1 bt800.2.1 bt800.2.2.1 0).bind fun bt807=>((impl_ServerHear.f k bt807.1 bt807.2.1 bt807.2.2 bt763.2.2.2.1 bt763.2.2.2.2.1 bt763.2.2.2.2.2.1 bt763.2.2.2.2.2.2.1 bt763.2.2.2.2.2.2.2.1 bt763.2.2.2.2.2.2.2.2.1 bt763.2.2.2.2.2.2.2.2.2).bind fun bt812=>(if bt793.2.2.2=true then (none) else ((laws_lpServer.f k bt793.1 bt793.2.1 bt793.2.2.1 bt784.1 bt784.2.1 bt784.2.2.1).bind fun t819=>(if t819=true then (if bt812.2.2.2=true then (none) else ((laws_lpLog.f k bt812.1 bt784.1).bind fun t820=>(some t820))) else (none)))))))) else (if (bt784.2.2.2==bt777.2.2.2)=true then ((laws_lpServer.f k bt784.1 bt784.2.1 bt784.2.2.1 bt777.1 bt777.2.1 bt777.2.2.1).bind fun t792=>(some t792)) else (none))) else (none))))))))=some r:=h
 clear h
 by_cases c2:(l0.length:Int) > 1048576
 ·rw [if_pos c2] at H
  have c2b0:decide (1048576 < (l0.length:Int))=true:=dt_ c2
  have c2b1:decide (1048576 < l0.length)=true:=dt_ (by omega)
  clear c2
  obtain rfl:=sj_ H
  go_enter Tryd.func7,Tryd.ntmps7
  go_wp2
  go_ret
  exact ⟨fi_,bel_⟩
 ·rw [if_neg c2] at H
  have c2b0:decide (1048576 < (l0.length:Int))=false:=df_ c2
  have c2b1:decide (1048576 < l0.length)=false:=df_ (by omega)
  clear c2
  replace H:=bs_ H
  obtain ⟨⟨t763,t766,t767,t768,t769,t770,t771,t772,t773,t774⟩,A30,H⟩:=H
  replace H:((spec_ServerHear.f k t763 t766 t767 t768 t769 t770 t771 t772 t773 t774).bind fun bt777=>((impl_ServerHear.f k t763 t766 t767 t768 t769 t770 t771 t772 t773 t774).bind fun bt784=>(if (bt784.2.2.2 != bt777.2.2.2)=true then (none) else ((laws_lpServer.f k bt784.1 bt784.2.1 bt784.2.2.1 bt777.1 bt777.2.1 bt777.2.2.1).bind fun t791=>(if t791=true then (if bt784.2.2.2=true then ((impl_ServerHear.f k bt784.1 bt784.2.1 bt784.2.2.1 t768 t769 t770 t771 t772 t773 t774).bind fun bt793=>((impl_ServerSync.f k bt784.1 bt784.2.1 bt784.2.2.1).bind fun bt800=>((impl_ServerFall.f k bt800.1 bt800.2.1 bt800.2.2.1 0).bind fun bt807=>((impl_ServerHear.f k bt807.1 bt807.2.1 bt807.2.2 t768 t769 t770 t771 t772 t773 t774).bind fun bt812=>(if bt793.2.2.2=true then (none) else ((laws_lpServer.f k bt793.1 bt793.2.1 bt793.2.2.1 bt784.1 bt784.2.1 bt784.2.2.1).bind fun t819=>(if t819=true then (if bt812.2.2.2=true then (none) else ((laws_lpLog.f k bt812.1 bt784.1).bind fun t820=>(some t820))) else (none)))))))) else (if (bt784.2.2.2==bt777.2.2.2)=true then ((laws_lpServer.f k bt784.1 bt784.2.1 bt784.2.2.1 bt777.1 bt777.2.1 bt777.2.2.1).bind fun t792=>(some t792)) else (none))) else (none))))))=some r:=H
  have A3:=a_ A30
  clear A30
  replace H:=bs_ H
  obtain ⟨⟨t777,t780,t781,t782⟩,A40,H⟩:=H
  replace H:((impl_ServerHear.f k t763 t766 t767 t768 t769 t770 t771 t772 t773 t774).bind fun bt784=>(if (bt784.2.2.2 != t782)=true then (none) else ((laws_lpServer.f k bt784.1 bt784.2.1 bt784.2.2.1 t777 t780 t781).bind fun t791=>(if t791=true then (if bt784.2.2.2=true then ((impl_ServerHear.f k bt784.1 bt784.2.1 bt784.2.2.1 t768 t769 t770 t771 t772 t773 t774).bind fun bt793=>((impl_ServerSync.f k bt784.1 bt784.2.1 bt784.2.2.1).bind fun bt800=>((impl_ServerFall.f k bt800.1 bt800.2.1 bt800.2.2.1 0).bind fun bt807=>((impl_ServerHear.f k bt807.1 bt807.2.1 bt807.2.2 t768 t769 t770 t771 t772 t773 t774).bind fun bt812=>(if bt793.2.2.2=true then (none) else ((laws_lpServer.f k bt793.1 bt793.2.1 bt793.2.2.1 bt784.1 bt784.2.1 bt784.2.2.1).bind fun t819=>(if t819=true then (if bt812.2.2.2=true then (none) else ((laws_lpLog.f k bt812.1 bt784.1).bind fun t820=>(some t820))) else (none)))))))) else (if (bt784.2.2.2==t782)=true then ((laws_lpServer.f k bt784.1 bt784.2.1 bt784.2.2.1 t777 t780 t781).bind fun t792=>(some t792)) else (none))) else (none)))))=some r:=H
  have A4:=a_ A40
  clear A40
  replace H:=bs_ H
  obtain ⟨⟨t784,t787,t788,t789⟩,A50,H⟩:=H
  replace H:(if (t789 != t782)=true then (none) else ((laws_lpServer.f k t784 t787 t788 t777 t780 t781).bind fun t791=>(if t791=true then (if t789=true then ((impl_ServerHear.f k t784 t787 t788 t768 t769 t770 t771 t772 t773 t774).bind fun bt793=>((impl_ServerSync.f k t784 t787 t788).bind fun bt800=>((impl_ServerFall.f k bt800.1 bt800.2.1 bt800.2.2.1 0).bind fun bt807=>((impl_ServerHear.f k bt807.1 bt807.2.1 bt807.2.2 t768 t769 t770 t771 t772 t773 t774).bind fun bt812=>(if bt793.2.2.2=true then (none) else ((laws_lpServer.f k bt793.1 bt793.2.1 bt793.2.2.1 t784 t787 t788).bind fun t819=>(if t819=true then (if bt812.2.2.2=true then (none) else ((laws_lpLog.f k bt812.1 t784).bind fun t820=>(some t820))) else (none)))))))) else (if (t789==t782)=true then ((laws_lpServer.f k t784 t787 t788 t777 t780 t781).bind fun t792=>(some t792)) else (none))) else (none))))=some r:=H
  have A5:=a_ A50
  clear A50
  by_cases c6:(t789 != t782)=true
  ·rw [if_pos c6] at H
   exact absurd H (by simp)
  ·rw [if_neg c6] at H
   have c6b0:(t789 != t782)=false:=by simpa using c6
   (try (have c6b1:decide (t789=t782)=true:=by simpa using c6))
   (try (have c6b2:(t789==t782)=true:=by simpa using c6))
   clear c6
   replace H:=bs_ H
   obtain ⟨t791,A70,H⟩:=H
   replace H:(if t791=true then (if t789=true then ((impl_ServerHear.f k t784 t787 t788 t768 t769 t770 t771 t772 t773 t774).bind fun bt793=>((impl_ServerSync.f k t784 t787 t788).bind fun bt800=>((impl_ServerFall.f k bt800.1 bt800.2.1 bt800.2.2.1 0).bind fun bt807=>((impl_ServerHear.f k bt807.1 bt807.2.1 bt807.2.2 t768 t769 t770 t771 t772 t773 t774).bind fun bt812=>(if bt793.2.2.2=true then (none) else ((laws_lpServer.f k bt793.1 bt793.2.1 bt793.2.2.1 t784 t787 t788).bind fun t819=>(if t819=true then (if bt812.2.2.2=true then (none) else ((laws_lpLog.f k bt812.1 t784).bind fun t820=>(some t820))) else (none)))))))) else (if (t789==t782)=true then ((laws_lpServer.f k t784 t787 t788 t777 t780 t781).bind fun t792=>(some t792)) else (none))) else (none))=some r:=H
   have A7:=a_ A70
   clear A70
   by_cases c8:t791=true
   ·subst c8
    have H1:(if t789=true then ((impl_ServerHear.f k t784 t787 t788 t768 t769 t770 t771 t772 t773 t774).bind fun bt793=>((impl_ServerSync.f k t784 t787 t788).bind fun bt800=>((impl_ServerFall.f k bt800.1 bt800.2.1 bt800.2.2.1 0).bind fun bt807=>((impl_ServerHear.f k bt807.1 bt807.2.1 bt807.2.2 t768 t769 t770 t771 t772 t773 t774).bind fun bt812=>(if bt793.2.2.2=true then (none) else ((laws_lpServer.f k bt793.1 bt793.2.1 bt793.2.2.1 t784 t787 t788).bind fun t819=>(if t819=true then (if bt812.2.2.2=true then (none) else ((laws_lpLog.f k bt812.1 t784).bind fun t820=>(some t820))) else (none)))))))) else (if (t789==t782)=true then ((laws_lpServer.f k t784 t787 t788 t777 t780 t781).bind fun t792=>(some t792)) else (none)))=some r:=by rw [if_pos rfl] at H;exact H
    clear H
    have H:=H1
    clear H1
    by_cases c9:t789=true
    ·subst c9
     have H1:((impl_ServerHear.f k t784 t787 t788 t768 t769 t770 t771 t772 t773 t774).bind fun bt793=>((impl_ServerSync.f k t784 t787 t788).bind fun bt800=>((impl_ServerFall.f k bt800.1 bt800.2.1 bt800.2.2.1 0).bind fun bt807=>((impl_ServerHear.f k bt807.1 bt807.2.1 bt807.2.2 t768 t769 t770 t771 t772 t773 t774).bind fun bt812=>(if bt793.2.2.2=true then (none) else ((laws_lpServer.f k bt793.1 bt793.2.1 bt793.2.2.1 t784 t787 t788).bind fun t819=>(if t819=true then (if bt812.2.2.2=true then (none) else ((laws_lpLog.f k bt812.1 t784).bind fun t820=>(some t820))) else (none))))))))=some r:=by rw [if_pos rfl] at H;exact H
     clear H
     have H:=H1
     clear H1
     replace H:=bs_ H
     obtain ⟨⟨t793,t796,t797,t798⟩,A100,H⟩:=H
     replace H:((impl_ServerSync.f k t784 t787 t788).bind fun bt800=>((impl_ServerFall.f k bt800.1 bt800.2.1 bt800.2.2.1 0).bind fun bt807=>((impl_ServerHear.f k bt807.1 bt807.2.1 bt807.2.2 t768 t769 t770 t771 t772 t773 t774).bind fun bt812=>(if t798=true then (none) else ((laws_lpServer.f k t793 t796 t797 t784 t787 t788).bind fun t819=>(if t819=true then (if bt812.2.2.2=true then (none) else ((laws_lpLog.f k bt812.1 t784).bind fun t820=>(some t820))) else (none)))))))=some r:=H
     have A10:=a_ A100
     clear A100
     replace H:=bs_ H
     obtain ⟨⟨t800,t803,t804,t805⟩,A110,H⟩:=H
     replace H:((impl_ServerFall.f k t800 t803 t804 0).bind fun bt807=>((impl_ServerHear.f k bt807.1 bt807.2.1 bt807.2.2 t768 t769 t770 t771 t772 t773 t774).bind fun bt812=>(if t798=true then (none) else ((laws_lpServer.f k t793 t796 t797 t784 t787 t788).bind fun t819=>(if t819=true then (if bt812.2.2.2=true then (none) else ((laws_lpLog.f k bt812.1 t784).bind fun t820=>(some t820))) else (none))))))=some r:=H
     have A11:=a_ A110
     clear A110
     replace H:=bs_ H
     obtain ⟨⟨t807,t810,t811⟩,A120,H⟩:=H
     replace H:((impl_ServerHear.f k t807 t810 t811 t768 t769 t770 t771 t772 t773 t774).bind fun bt812=>(if t798=true then (none) else ((laws_lpServer.f k t793 t796 t797 t784 t787 t788).bind fun t819=>(if t819=true then (if bt812.2.2.2=true then (none) else ((laws_lpLog.f k bt812.1 t784).bind fun t820=>(some t820))) else (none)))))=some r:=H
     have A12:=a_ A120
     clear A120
     replace H:=bs_ H
     obtain ⟨⟨t812,t815,t816,t817⟩,A130,H⟩:=H
     replace H:(if t798=true then (none) else ((laws_lpServer.f k t793 t796 t797 t784 t787 t788).bind fun t819=>(if t819=true then (if t817=true then (none) else ((laws_lpLog.f k t812 t784).bind fun t820=>(some t820))) else (none))))=some r:=H
     have A13:=a_ A130
     clear A130
     by_cases c14:t798=true
     ·subst c14
      have H1:(none)=some r:=by rw [if_pos rfl] at H;exact H
      clear H
      have H:=H1
      clear H1
      exact absurd H (by simp)
     ·replace c14:=Bool.eq_false_iff.mpr c14
      subst c14
      have H1:((laws_lpServer.f k t793 t796 t797 t784 t787 t788).bind fun t819=>(if t819=true then (if t817=true then (none) else ((laws_lpLog.f k t812 t784).bind fun t820=>(some t820))) else (none)))=some r:=by rw [if_neg (show ¬ (false=true) by decide)] at H;exact H
      clear H
      have H:=H1
      clear H1
      replace H:=bs_ H
      obtain ⟨t819,A150,H⟩:=H
      replace H:(if t819=true then (if t817=true then (none) else ((laws_lpLog.f k t812 t784).bind fun t820=>(some t820))) else (none))=some r:=H
      have A15:=a_ A150
      clear A150
      by_cases c16:t819=true
      ·subst c16
       have H1:(if t817=true then (none) else ((laws_lpLog.f k t812 t784).bind fun t820=>(some t820)))=some r:=by rw [if_pos rfl] at H;exact H
       clear H
       have H:=H1
       clear H1
       by_cases c17:t817=true
       ·subst c17
        have H1:(none)=some r:=by rw [if_pos rfl] at H;exact H
        clear H
        have H:=H1
        clear H1
        exact absurd H (by simp)
       ·replace c17:=Bool.eq_false_iff.mpr c17
        subst c17
        have H1:((laws_lpLog.f k t812 t784).bind fun t820=>(some t820))=some r:=by rw [if_neg (show ¬ (false=true) by decide)] at H;exact H
        clear H
        have H:=H1
        clear H1
        replace H:=bs_ H
        obtain ⟨t820,A180,H⟩:=H
        replace H:(some t820)=some r:=H
        have A18:=a_ A180
        clear A180
        obtain rfl:=sj_ H
        go_enter Tryd.func7,Tryd.ntmps7
        try go_wp2_with (first|((with_reducible refine gC_ (f:=28) rfl ?_);refine gl_ 20 Tryd.func28 #[.slice A0 l0.length c0] ?_;(with_reducible refine (spec_DrawServerHear.calls k _ _ l0 t763 t766 t767 t768 t769 t770 t771 t772 t773 t774 _ ?side1 ?side2 A3.out).mono ?_);(case side1=>exact cx_ HR0.out);(case side2=>exact HC0.out);rintro e w19 ⟨v764,rfl,ho0,hb⟩;refine ⟨_,rfl,?_⟩;have HO765:=a_ (Kd.R_lower ho0 (below_size (bel_)));replace HB:=a_ (bS_ (bel_) hb);(try clear hb ho0))|((with_reducible refine gD_ (N:=3) rfl ?_);refine bx_ 3 (#[.slice none 0 0,.int .i64 0,.bool false]) 25 ?_;intro gb775 hg w20 hbox hb;have n0_:=a_ (Kd.R_below (rp_ HO765.out) hb);have n1_:=a_ (bS_ (bel_) hb);have n2_:=a_ (hbox);have n3_:=a_ ((by rw [hg];exact (below_size (bel_)):w.heap.size≤gb775));have n4_:=a_ ((by rw [hg];exact (below_size (bel_)):w.heap.size≤gb775));clear HO765;clear HB;have HO765:=n0_;have HB:=n1_;have BK775:=n2_;have GW775:=n3_;have GE775:=n4_;clear n0_ n1_ n2_ n3_ n4_;clear hb hbox hg)|((with_reducible refine gD_ (N:=4) rfl ?_);refine bx_ 4 (#[.int .i64 0,.int .i64 0,.int .i64 0,.int .i64 0,.int .i64 0,.int .i64 0,.string (⟨#[]⟩:ByteArray)]) 44 ?_;intro gb776 hg w21 hbox hb;have n0_:=a_ (Kd.R_below (Kd.R_elderB (rp_ HO765.out) gb776 (Nat.le_of_eq hg.symm)) hb);have n1_:=a_ (blk_below (g:=gb775) (o:=.cells #[.slice none 0 0,.int .i64 0,.bool false] 25 (0,0)) (bp_ BK775.out) hb);have n2_:=a_ (bS_ (bel_) hb);have n3_:=a_ (hbox);have n4_:=a_ ((by rw [hg];exact (below_size (bel_)):w.heap.size≤gb776));have n5_:=a_ ((by rw [hg];exact (below_size (bel_)):w.heap.size≤gb776));have n6_:=a_ ((by rw [hg];exact Nat.ne_of_lt (blk_lt (g:=gb775) (o:=.cells #[.slice none 0 0,.int .i64 0,.bool false] 25 (0,0)) (bp_ BK775.out)):gb775≠gb776));have n7_:=a_ ((by rw [hg];exact Nat.ne_of_gt (blk_lt (g:=gb775) (o:=.cells #[.slice none 0 0,.int .i64 0,.bool false] 25 (0,0)) (bp_ BK775.out)):gb776≠gb775));clear HO765;clear BK775;clear HB;have HO765:=n0_;have BK775:=n1_;have HB:=n2_;have BK776:=n3_;have GW776:=n4_;have GE776:=n5_;have NB775_776:=n6_;have NB776_775:=n7_;clear n0_ n1_ n2_ n3_ n4_ n5_ n6_ n7_;clear hb hbox hg;obtain ⟨Ao22,co22,eo22⟩:=Kd.R_slice HO765.out;subst eo22;have hnb23:=NB775_776.out;have hnc23:=NB776_775.out;have Z24_0:=cz_ BK775.out 0 (.slice none 0 0);have Z24_1:=cz_ BK775.out 1 (.int .i64 0);have Z24_2:=cz_ BK775.out 2 (.bool false);have Y24_0:=bF_ BK775.out 0;have Y24_1:=bF_ BK775.out 1;have Y24_2:=bF_ BK775.out 2;have Z25_0:=cz_ BK776.out 0 (.int .i64 0);have Z25_1:=cz_ BK776.out 1 (.int .i64 0);have Z25_2:=cz_ BK776.out 2 (.int .i64 0);have Z25_3:=cz_ BK776.out 3 (.int .i64 0);have Z25_4:=cz_ BK776.out 4 (.int .i64 0);have Z25_5:=cz_ BK776.out 5 (.int .i64 0);have Z25_6:=cz_ BK776.out 6 (.string (⟨#[]⟩:ByteArray));have Y25_0:=bF_ BK776.out 0;have Y25_1:=bF_ BK776.out 1;have Y25_2:=bF_ BK776.out 2;have Y25_3:=bF_ BK776.out 3;have Y25_4:=bF_ BK776.out 4;have Y25_5:=bF_ BK776.out 5;have Y25_6:=bF_ BK776.out 6)|((with_reducible refine gC_ (f:=21) rfl ?_);refine gl_ 26 Tryd.func21 #[.agg #[.slice Ao22 t763.length co22,.int .i64 t766,.bool t767],.agg #[.int .i64 t768,.int .i64 t769,.int .i64 t770,.int .i64 t771,.int .i64 t772,.int .i64 t773,.string t774]] ?_;(with_reducible refine (spec_ServerHear.calls k _ _ t763 t766 t767 t768 t769 t770 t771 t772 t773 t774 t777 t780 t781 t782 _ ?side1 ?side2 A4.out).mono ?_);(case side1=>refine (Kd.R_reads' (e:=44) (base:=w.heap.size) (ok:=fun k_=>(True∧k_≠gb776)) (n:=t763.length) (c:=co22) ?_).2.2;exact (by (with_reducible repeat (first|apply Kd.R_alloc|apply Kd.R_drewN|apply Kd.R_drew));exact (Kd.R_mono (Kd.R_mono (rf7_ (g:=gb776) (rf3_ (g:=gb775) (Kd.R_mono (Kd.R_types HO765.out BK775.out (by decide)) (fun k_ hk=>(⟨hk,hk.1.2⟩:_∧k_≠gb776))) (fun _ hk=>hk.1.2) (.slice Ao22 t763.length co22) (.int .i64 t766) (.bool t767)) (fun _ hk=>hk.2) (.int .i64 t768) (.int .i64 t769) (.int .i64 t770) (.int .i64 t771) (.int .i64 t772) (.int .i64 t773) (.string t774)) (fun _ h_=>h_.1)) (fun _ h_=>h_.1))));(case side2=>exact (Kd.R_reads' HO765.out).2.1);rintro e w26 ⟨v778,rfl,ho0,hb⟩;refine ⟨_,rfl,?_⟩;have n0_:=a_ (Kd.R_elder' (by (with_reducible repeat (first|apply Kd.R_alloc|apply Kd.R_drewN|apply Kd.R_drew));exact (Kd.R_mono (Kd.R_mono (rf7_ (g:=gb776) (rf3_ (g:=gb775) (Kd.R_mono (Kd.R_types HO765.out BK775.out (by decide)) (fun k_ hk=>(⟨hk,hk.1.2⟩:_∧k_≠gb776))) (fun _ hk=>hk.1.2) (.slice Ao22 t763.length co22) (.int .i64 t766) (.bool t767)) (fun _ hk=>hk.2) (.int .i64 t768) (.int .i64 t769) (.int .i64 t770) (.int .i64 t771) (.int .i64 t772) (.int .i64 t773) (.string t774)) (fun _ h_=>h_.1)) (fun _ h_=>h_.1))) (Kd.R_base ho0) hb);have n1_:=a_ (Kd.R_lower (Kd.R_newB (Kd.R_new' ho0 (Kd.R_lt (by (with_reducible repeat (first|apply Kd.R_alloc|apply Kd.R_drewN|apply Kd.R_drew));exact (Kd.R_mono (Kd.R_mono (rf7_ (g:=gb776) (rf3_ (g:=gb775) (Kd.R_mono (Kd.R_types HO765.out BK775.out (by decide)) (fun k_ hk=>(⟨hk,hk.1.2⟩:_∧k_≠gb776))) (fun _ hk=>hk.1.2) (.slice Ao22 t763.length co22) (.int .i64 t766) (.bool t767)) (fun _ hk=>hk.2) (.int .i64 t768) (.int .i64 t769) (.int .i64 t770) (.int .i64 t771) (.int .i64 t772) (.int .i64 t773) (.string t774)) (fun _ h_=>h_.1)) (fun _ h_=>h_.1))))) (g:=gb776) (o:=.cells #[.int .i64 t768,.int .i64 t769,.int .i64 t770,.int .i64 t771,.int .i64 t772,.int .i64 t773,.string t774] 44 (0,0)) (k7p1_ NB776_775.out BK776.out)) (below_size (bel_)));have n2_:=a_ (blk_below (g:=gb775) (o:=.cells #[.slice Ao22 t763.length co22,.int .i64 t766,.bool t767] 25 (0,0)) (k3p1_ NB775_776.out BK775.out) hb);have n3_:=a_ (blk_below (g:=gb776) (o:=.cells #[.int .i64 t768,.int .i64 t769,.int .i64 t770,.int .i64 t771,.int .i64 t772,.int .i64 t773,.string t774] 44 (0,0)) (k7p1_ NB776_775.out BK776.out) hb);have n4_:=a_ (bS_ (bel_) hb);clear HO765;clear BK775;clear BK776;clear HB;have HO765:=n0_;have HO779:=n1_;have BK775:=n2_;have BK776:=n3_;have HB:=n4_;clear n0_ n1_ n2_ n3_ n4_;(try clear hb ho0))|((with_reducible refine gD_ (N:=5) rfl ?_);refine bx_ 5 (#[.slice none 0 0,.int .i64 0,.bool false]) 25 ?_;intro gb783 hg w27 hbox hb;have n0_:=a_ (Kd.R_below (rp_ HO765.out) hb);have n1_:=a_ (Kd.R_below (rp_ HO779.out) hb);have n2_:=a_ (blk_below (g:=gb775) (o:=.cells #[.slice Ao22 t763.length co22,.int .i64 t766,.bool t767] 25 (0,0)) (bp_ BK775.out) hb);have n3_:=a_ (blk_below (g:=gb776) (o:=.cells #[.int .i64 t768,.int .i64 t769,.int .i64 t770,.int .i64 t771,.int .i64 t772,.int .i64 t773,.string t774] 44 (0,0)) (bp_ BK776.out) hb);have n4_:=a_ (bS_ (bel_) hb);have n5_:=a_ (hbox);have n6_:=a_ ((by rw [hg];exact (below_size (bel_)):w.heap.size≤gb783));have n7_:=a_ ((by rw [hg];exact (below_size (bel_)):w.heap.size≤gb783));have n8_:=a_ ((by rw [hg];exact Nat.ne_of_lt (blk_lt (g:=gb775) (o:=.cells #[.slice Ao22 t763.length co22,.int .i64 t766,.bool t767] 25 (0,0)) (bp_ BK775.out)):gb775≠gb783));have n9_:=a_ ((by rw [hg];exact Nat.ne_of_gt (blk_lt (g:=gb775) (o:=.cells #[.slice Ao22 t763.length co22,.int .i64 t766,.bool t767] 25 (0,0)) (bp_ BK775.out)):gb783≠gb775));have n10_:=a_ ((by rw [hg];exact Nat.ne_of_lt (blk_lt (g:=gb776) (o:=.cells #[.int .i64 t768,.int .i64 t769,.int .i64 t770,.int .i64 t771,.int .i64 t772,.int .i64 t773,.string t774] 44 (0,0)) (bp_ BK776.out)):gb776≠gb783));have n11_:=a_ ((by rw [hg];exact Nat.ne_of_gt (blk_lt (g:=gb776) (o:=.cells #[.int .i64 t768,.int .i64 t769,.int .i64 t770,.int .i64 t771,.int .i64 t772,.int .i64 t773,.string t774] 44 (0,0)) (bp_ BK776.out)):gb783≠gb776));clear HO765;clear HO779;clear BK775;clear BK776;clear HB;have HO765:=n0_;have HO779:=n1_;have BK775:=n2_;have BK776:=n3_;have HB:=n4_;have BK783:=n5_;have GW783:=n6_;have GE783:=n7_;have NB775_783:=n8_;have NB783_775:=n9_;have NB776_783:=n10_;have NB783_776:=n11_;clear n0_ n1_ n2_ n3_ n4_ n5_ n6_ n7_ n8_ n9_ n10_ n11_;clear hb hbox hg;obtain ⟨Ao28,co28,eo28⟩:=Kd.R_slice HO779.out;subst eo28;have hnb29:=NB783_775.out;have hnc29:=NB775_783.out;have hnb30:=NB783_776.out;have hnc30:=NB776_783.out;have Z31_0:=cz_ BK783.out 0 (.slice none 0 0);have Z31_1:=cz_ BK783.out 1 (.int .i64 0);have Z31_2:=cz_ BK783.out 2 (.bool false);have Y31_0:=bF_ BK783.out 0;have Y31_1:=bF_ BK783.out 1;have Y31_2:=bF_ BK783.out 2;have Z32_0:=cz_ BK775.out 0 (.slice Ao22 t763.length co22);have Z32_1:=cz_ BK775.out 1 (.int .i64 t766);have Z32_2:=cz_ BK775.out 2 (.bool t767);have Y32_0:=bF_ BK775.out 0;have Y32_1:=bF_ BK775.out 1;have Y32_2:=bF_ BK775.out 2;have Z33_0:=cz_ BK776.out 0 (.int .i64 t768);have Z33_1:=cz_ BK776.out 1 (.int .i64 t769);have Z33_2:=cz_ BK776.out 2 (.int .i64 t770);have Z33_3:=cz_ BK776.out 3 (.int .i64 t771);have Z33_4:=cz_ BK776.out 4 (.int .i64 t772);have Z33_5:=cz_ BK776.out 5 (.int .i64 t773);have Z33_6:=cz_ BK776.out 6 (.string t774);have Y33_0:=bF_ BK776.out 0;have Y33_1:=bF_ BK776.out 1;have Y33_2:=bF_ BK776.out 2;have Y33_3:=bF_ BK776.out 3;have Y33_4:=bF_ BK776.out 4;have Y33_5:=bF_ BK776.out 5;have Y33_6:=bF_ BK776.out 6)|((with_reducible refine gC_ (f:=24) rfl ?_);refine gl_ 32 Tryd.func24 #[.agg #[.slice Ao22 t763.length co22,.int .i64 t766,.bool t767],.agg #[.int .i64 t768,.int .i64 t769,.int .i64 t770,.int .i64 t771,.int .i64 t772,.int .i64 t773,.string t774]] ?_;(with_reducible refine (impl_ServerHear.calls k _ _ t763 t766 t767 t768 t769 t770 t771 t772 t773 t774 t784 t787 t788 true _ ?side1 ?side2 A5.out ?side3).mono ?_);(case side1=>refine (Kd.R_reads' (e:=44) (base:=w.heap.size) (ok:=fun k_=>((True∧k_≠gb776)∧some k_≠(.slice Ao28 t777.length co28:Value).ownBlock)) (n:=t763.length) (c:=co22) ?_).2.2;exact (by (with_reducible repeat (first|apply Kd.R_alloc|apply Kd.R_drewN|apply Kd.R_drew));exact (Kd.R_mono (rf3_ (g:=gb783) (Kd.R_types HO765.out BK783.out (by decide)) (fun _ hk=>hk.2) (.slice Ao28 t777.length co28) (.int .i64 t780) (.bool t781)) (fun _ h_=>h_.1))));(case side2=>exact (Kd.R_reads' HO765.out).2.1);(case side3=>exact Glob.below HG.out (bel_));rintro e w34 ⟨v785,rfl,ho0,hb⟩;refine ⟨_,rfl,?_⟩;have n0_:=a_ (Kd.R_elder' (by (with_reducible repeat (first|apply Kd.R_alloc|apply Kd.R_drewN|apply Kd.R_drew));exact (Kd.R_mono (rf3_ (g:=gb783) (Kd.R_types HO765.out BK783.out (by decide)) (fun _ hk=>hk.2) (.slice Ao28 t777.length co28) (.int .i64 t780) (.bool t781)) (fun _ h_=>h_.1))) (Kd.R_base ho0) hb);have n1_:=a_ (Kd.R_elder' (by (with_reducible repeat (first|apply Kd.R_alloc|apply Kd.R_drewN|apply Kd.R_drew));exact (Kd.R_mono (rf3_ (g:=gb783) (Kd.R_types HO779.out BK783.out (by decide)) (fun _ hk=>hk.2) (.slice Ao28 t777.length co28) (.int .i64 t780) (.bool t781)) (fun _ h_=>h_.1))) (Kd.R_base ho0) hb);have n2_:=a_ (Kd.R_lower (Kd.R_newB (Kd.R_new' (Kd.R_new' ho0 (Kd.R_lt (by (with_reducible repeat (first|apply Kd.R_alloc|apply Kd.R_drewN|apply Kd.R_drew));exact (Kd.R_mono (rf3_ (g:=gb783) (Kd.R_types HO765.out BK783.out (by decide)) (fun _ hk=>hk.2) (.slice Ao28 t777.length co28) (.int .i64 t780) (.bool t781)) (fun _ h_=>h_.1))))) (Kd.R_lt (by (with_reducible repeat (first|apply Kd.R_alloc|apply Kd.R_drewN|apply Kd.R_drew));exact (Kd.R_mono (rf3_ (g:=gb783) (Kd.R_types HO779.out BK783.out (by decide)) (fun _ hk=>hk.2) (.slice Ao28 t777.length co28) (.int .i64 t780) (.bool t781)) (fun _ h_=>h_.1))))) (g:=gb776) (o:=.cells #[.int .i64 t768,.int .i64 t769,.int .i64 t770,.int .i64 t771,.int .i64 t772,.int .i64 t773,.string t774] 44 (0,0)) (fp1_ NB776_783.out BK776.out)) (below_size (bel_)));have n3_:=a_ (blk_below (g:=gb775) (o:=.cells #[.slice Ao22 t763.length co22,.int .i64 t766,.bool t767] 25 (0,0)) (fp1_ NB775_783.out BK775.out) hb);have n4_:=a_ (blk_below (g:=gb776) (o:=.cells #[.int .i64 t768,.int .i64 t769,.int .i64 t770,.int .i64 t771,.int .i64 t772,.int .i64 t773,.string t774] 44 (0,0)) (fp1_ NB776_783.out BK776.out) hb);have n5_:=a_ (blk_below (g:=gb783) (o:=.cells #[.slice Ao28 t777.length co28,.int .i64 t780,.bool t781] 25 (0,0)) (k3p_ BK783.out) hb);have n6_:=a_ (bS_ (bel_) hb);clear HO765;clear HO779;clear BK775;clear BK776;clear BK783;clear HB;have HO765:=n0_;have HO779:=n1_;have HO786:=n2_;have BK775:=n3_;have BK776:=n4_;have BK783:=n5_;have HB:=n6_;clear n0_ n1_ n2_ n3_ n4_ n5_ n6_;(try clear hb ho0))|((with_reducible refine gD_ (N:=7) rfl ?_);refine bx_ 7 (#[.slice none 0 0,.int .i64 0,.bool false]) 25 ?_;intro gb790 hg w35 hbox hb;have n0_:=a_ (Kd.R_below (rp_ HO765.out) hb);have n1_:=a_ (Kd.R_below (rp_ HO779.out) hb);have n2_:=a_ (Kd.R_below (rp_ HO786.out) hb);have n3_:=a_ (blk_below (g:=gb775) (o:=.cells #[.slice Ao22 t763.length co22,.int .i64 t766,.bool t767] 25 (0,0)) (bp_ BK775.out) hb);have n4_:=a_ (blk_below (g:=gb776) (o:=.cells #[.int .i64 t768,.int .i64 t769,.int .i64 t770,.int .i64 t771,.int .i64 t772,.int .i64 t773,.string t774] 44 (0,0)) (bp_ BK776.out) hb);have n5_:=a_ (blk_below (g:=gb783) (o:=.cells #[.slice Ao28 t777.length co28,.int .i64 t780,.bool t781] 25 (0,0)) (bp_ BK783.out) hb);have n6_:=a_ (bS_ (bel_) hb);have n7_:=a_ (hbox);have n8_:=a_ ((by rw [hg];exact (below_size (bel_)):w.heap.size≤gb790));have n9_:=a_ ((by rw [hg];exact (below_size (bel_)):w.heap.size≤gb790));have n10_:=a_ ((by rw [hg];exact Nat.ne_of_lt (blk_lt (g:=gb775) (o:=.cells #[.slice Ao22 t763.length co22,.int .i64 t766,.bool t767] 25 (0,0)) (bp_ BK775.out)):gb775≠gb790));have n11_:=a_ ((by rw [hg];exact Nat.ne_of_gt (blk_lt (g:=gb775) (o:=.cells #[.slice Ao22 t763.length co22,.int .i64 t766,.bool t767] 25 (0,0)) (bp_ BK775.out)):gb790≠gb775));have n12_:=a_ ((by rw [hg];exact Nat.ne_of_lt (blk_lt (g:=gb776) (o:=.cells #[.int .i64 t768,.int .i64 t769,.int .i64 t770,.int .i64 t771,.int .i64 t772,.int .i64 t773,.string t774] 44 (0,0)) (bp_ BK776.out)):gb776≠gb790));have n13_:=a_ ((by rw [hg];exact Nat.ne_of_gt (blk_lt (g:=gb776) (o:=.cells #[.int .i64 t768,.int .i64 t769,.int .i64 t770,.int .i64 t771,.int .i64 t772,.int .i64 t773,.string t774] 44 (0,0)) (bp_ BK776.out)):gb790≠gb776));have n14_:=a_ ((by rw [hg];exact Nat.ne_of_lt (blk_lt (g:=gb783) (o:=.cells #[.slice Ao28 t777.length co28,.int .i64 t780,.bool t781] 25 (0,0)) (bp_ BK783.out)):gb783≠gb790));have n15_:=a_ ((by rw [hg];exact Nat.ne_of_gt (blk_lt (g:=gb783) (o:=.cells #[.slice Ao28 t777.length co28,.int .i64 t780,.bool t781] 25 (0,0)) (bp_ BK783.out)):gb790≠gb783));clear HO765;clear HO779;clear HO786;clear BK775;clear BK776;clear BK783;clear HB;have HO765:=n0_;have HO779:=n1_;have HO786:=n2_;have BK775:=n3_;have BK776:=n4_;have BK783:=n5_;have HB:=n6_;have BK790:=n7_;have GW790:=n8_;have GE790:=n9_;have NB775_790:=n10_;have NB790_775:=n11_;have NB776_790:=n12_;have NB790_776:=n13_;have NB783_790:=n14_;have NB790_783:=n15_;clear n0_ n1_ n2_ n3_ n4_ n5_ n6_ n7_ n8_ n9_ n10_ n11_ n12_ n13_ n14_ n15_;clear hb hbox hg;obtain ⟨Ao36,co36,eo36⟩:=Kd.R_slice HO786.out;subst eo36;have hnb37:=NB790_775.out;have hnc37:=NB775_790.out;have hnb38:=NB790_776.out;have hnc38:=NB776_790.out;have hnb39:=NB790_783.out;have hnc39:=NB783_790.out;have Z40_0:=cz_ BK790.out 0 (.slice none 0 0);have Z40_1:=cz_ BK790.out 1 (.int .i64 0);have Z40_2:=cz_ BK790.out 2 (.bool false);have Y40_0:=bF_ BK790.out 0;have Y40_1:=bF_ BK790.out 1;have Y40_2:=bF_ BK790.out 2;have Z41_0:=cz_ BK783.out 0 (.slice Ao28 t777.length co28);have Z41_1:=cz_ BK783.out 1 (.int .i64 t780);have Z41_2:=cz_ BK783.out 2 (.bool t781);have Y41_0:=bF_ BK783.out 0;have Y41_1:=bF_ BK783.out 1;have Y41_2:=bF_ BK783.out 2)|(go_at_call 29;(with_reducible refine (laws_lpServer.calls k _ _ t784 t787 t788 _ _ t777 t780 t781 true _ ?side1 ?side2 ?side3 ?side4 A7.out).mono ?_);(case side1=>refine (Kd.R_reads' (e:=44) (base:=w.heap.size) (ok:=fun k_=>(((True∧some k_≠(.slice Ao22 t763.length co22:Value).ownBlock)∧some k_≠(.slice Ao28 t777.length co28:Value).ownBlock)∧k_≠gb776)) (n:=t784.length) (c:=co36) ?_).2.2;exact (by (with_reducible repeat (first|apply Kd.R_alloc|apply Kd.R_drewN|apply Kd.R_drew));exact (Kd.R_mono (rf3_ (g:=gb790) (Kd.R_types HO786.out BK790.out (by decide)) (fun _ hk=>hk.2) (.slice Ao36 t784.length co36) (.int .i64 t787) (.bool t788)) (fun _ h_=>h_.1))));(case side2=>exact (Kd.R_reads' HO786.out).2.1);(case side3=>refine (Kd.R_reads' (e:=44) (base:=w.heap.size) (ok:=fun k_=>(((True∧some k_≠(.slice Ao22 t763.length co22:Value).ownBlock)∧k_≠gb776)∧some k_≠(.slice Ao36 t784.length co36:Value).ownBlock)) (n:=t777.length) (c:=co28) ?_).2.2;exact (by (with_reducible repeat (first|apply Kd.R_alloc|apply Kd.R_drewN|apply Kd.R_drew));exact (Kd.R_mono (rf3_ (g:=gb790) (Kd.R_types HO779.out BK790.out (by decide)) (fun _ hk=>hk.2) (.slice Ao36 t784.length co36) (.int .i64 t787) (.bool t788)) (fun _ h_=>h_.1))));(case side4=>exact (Kd.R_reads' HO779.out).2.1);rintro e w42 ⟨rfl,hb⟩;have n0_:=a_ (Kd.R_below (by (with_reducible repeat (first|apply Kd.R_alloc|apply Kd.R_drewN|apply Kd.R_drew));exact (Kd.R_mono (rf3_ (g:=gb790) (Kd.R_types HO765.out BK790.out (by decide)) (fun _ hk=>hk.2) (.slice Ao36 t784.length co36) (.int .i64 t787) (.bool t788)) (fun _ h_=>h_.1))) hb);have n1_:=a_ (Kd.R_below (by (with_reducible repeat (first|apply Kd.R_alloc|apply Kd.R_drewN|apply Kd.R_drew));exact (Kd.R_mono (rf3_ (g:=gb790) (Kd.R_types HO779.out BK790.out (by decide)) (fun _ hk=>hk.2) (.slice Ao36 t784.length co36) (.int .i64 t787) (.bool t788)) (fun _ h_=>h_.1))) hb);have n2_:=a_ (Kd.R_below (by (with_reducible repeat (first|apply Kd.R_alloc|apply Kd.R_drewN|apply Kd.R_drew));exact (Kd.R_mono (rf3_ (g:=gb790) (Kd.R_types HO786.out BK790.out (by decide)) (fun _ hk=>hk.2) (.slice Ao36 t784.length co36) (.int .i64 t787) (.bool t788)) (fun _ h_=>h_.1))) hb);have n3_:=a_ (blk_below (g:=gb775) (o:=.cells #[.slice Ao22 t763.length co22,.int .i64 t766,.bool t767] 25 (0,0)) (fp1_ NB775_790.out BK775.out) hb);have n4_:=a_ (blk_below (g:=gb776) (o:=.cells #[.int .i64 t768,.int .i64 t769,.int .i64 t770,.int .i64 t771,.int .i64 t772,.int .i64 t773,.string t774] 44 (0,0)) (fp1_ NB776_790.out BK776.out) hb);have n5_:=a_ (blk_below (g:=gb783) (o:=.cells #[.slice Ao28 t777.length co28,.int .i64 t780,.bool t781] 25 (0,0)) (fp1_ NB783_790.out BK783.out) hb);have n6_:=a_ (blk_below (g:=gb790) (o:=.cells #[.slice Ao36 t784.length co36,.int .i64 t787,.bool t788] 25 (0,0)) (k3p_ BK790.out) hb);have n7_:=a_ (bS_ (bel_) hb);clear HO765;clear HO779;clear HO786;clear BK775;clear BK776;clear BK783;clear BK790;clear HB;have HO765:=n0_;have HO779:=n1_;have HO786:=n2_;have BK775:=n3_;have BK776:=n4_;have BK783:=n5_;have BK790:=n6_;have HB:=n7_;clear n0_ n1_ n2_ n3_ n4_ n5_ n6_ n7_;(try clear hb);have Z43_0:=cz_ BK790.out 0 (.slice Ao36 t784.length co36);have Z43_1:=cz_ BK790.out 1 (.int .i64 t787);have Z43_2:=cz_ BK790.out 2 (.bool t788);have Y43_0:=bF_ BK790.out 0;have Y43_1:=bF_ BK790.out 1;have Y43_2:=bF_ BK790.out 2;have Z44_0:=cz_ BK776.out 0 (.int .i64 t768);have Z44_1:=cz_ BK776.out 1 (.int .i64 t769);have Z44_2:=cz_ BK776.out 2 (.int .i64 t770);have Z44_3:=cz_ BK776.out 3 (.int .i64 t771);have Z44_4:=cz_ BK776.out 4 (.int .i64 t772);have Z44_5:=cz_ BK776.out 5 (.int .i64 t773);have Z44_6:=cz_ BK776.out 6 (.string t774);have Y44_0:=bF_ BK776.out 0;have Y44_1:=bF_ BK776.out 1;have Y44_2:=bF_ BK776.out 2;have Y44_3:=bF_ BK776.out 3;have Y44_4:=bF_ BK776.out 4;have Y44_5:=bF_ BK776.out 5;have Y44_6:=bF_ BK776.out 6)|((with_reducible refine gC_ (f:=24) rfl ?_);refine gl_ 59 Tryd.func24 #[.agg #[.slice Ao36 t784.length co36,.int .i64 t787,.bool t788],.agg #[.int .i64 t768,.int .i64 t769,.int .i64 t770,.int .i64 t771,.int .i64 t772,.int .i64 t773,.string t774]] ?_;(with_reducible refine (impl_ServerHear.calls k _ _ t784 t787 t788 t768 t769 t770 t771 t772 t773 t774 t793 t796 t797 false _ ?side1 ?side2 A10.out ?side3).mono ?_);(case side1=>exact cx_ (Kd.R_reads' HO786.out).2.2);(case side2=>exact (Kd.R_reads' HO786.out).2.1);(case side3=>exact Glob.below HG.out (bel_));rintro e w45 ⟨v794,rfl,ho0,hb⟩;refine ⟨_,rfl,?_⟩;have HO795:=a_ (Kd.R_lower (Kd.R_newB (Kd.R_new' (Kd.R_new' (Kd.R_new' ho0 (Kd.R_lt (rp_ HO765.out))) (Kd.R_lt (rp_ HO779.out))) (Kd.R_lt (rp_ HO786.out))) (g:=gb776) (o:=.cells #[.int .i64 t768,.int .i64 t769,.int .i64 t770,.int .i64 t771,.int .i64 t772,.int .i64 t773,.string t774] 44 (0,0)) (bp_ BK776.out)) (below_size (bel_)));replace HO765:=a_ (Kd.R_elder' (rp_ HO765.out) (Kd.R_base ho0) hb);replace HO779:=a_ (Kd.R_elder' (rp_ HO779.out) (Kd.R_base ho0) hb);replace HO786:=a_ (Kd.R_elder' (rp_ HO786.out) (Kd.R_base ho0) hb);replace HB:=a_ (bS_ (bel_) hb);replace BK775:=a_ (blk_below (g:=gb775) (o:=.cells #[.slice Ao22 t763.length co22,.int .i64 t766,.bool t767] 25 (0,0)) (bp_ BK775.out) hb);replace BK776:=a_ (blk_below (g:=gb776) (o:=.cells #[.int .i64 t768,.int .i64 t769,.int .i64 t770,.int .i64 t771,.int .i64 t772,.int .i64 t773,.string t774] 44 (0,0)) (bp_ BK776.out) hb);replace BK783:=a_ (blk_below (g:=gb783) (o:=.cells #[.slice Ao28 t777.length co28,.int .i64 t780,.bool t781] 25 (0,0)) (bp_ BK783.out) hb);replace BK790:=a_ (blk_below (g:=gb790) (o:=.cells #[.slice Ao36 t784.length co36,.int .i64 t787,.bool t788] 25 (0,0)) (bp_ BK790.out) hb);(try clear hb ho0))|((with_reducible refine gD_ (N:=9) rfl ?_);refine bx_ 9 (#[.slice none 0 0,.int .i64 0,.bool false]) 25 ?_;intro gb799 hg w46 hbox hb;have n0_:=a_ (Kd.R_below (rp_ HO765.out) hb);have n1_:=a_ (Kd.R_below (rp_ HO779.out) hb);have n2_:=a_ (Kd.R_below (rp_ HO786.out) hb);have n3_:=a_ (Kd.R_below (rp_ HO795.out) hb);have n4_:=a_ (blk_below (g:=gb775) (o:=.cells #[.slice Ao22 t763.length co22,.int .i64 t766,.bool t767] 25 (0,0)) (bp_ BK775.out) hb);have n5_:=a_ (blk_below (g:=gb776) (o:=.cells #[.int .i64 t768,.int .i64 t769,.int .i64 t770,.int .i64 t771,.int .i64 t772,.int .i64 t773,.string t774] 44 (0,0)) (bp_ BK776.out) hb);have n6_:=a_ (blk_below (g:=gb783) (o:=.cells #[.slice Ao28 t777.length co28,.int .i64 t780,.bool t781] 25 (0,0)) (bp_ BK783.out) hb);have n7_:=a_ (blk_below (g:=gb790) (o:=.cells #[.slice Ao36 t784.length co36,.int .i64 t787,.bool t788] 25 (0,0)) (bp_ BK790.out) hb);have n8_:=a_ (bS_ (bel_) hb);have n9_:=a_ (hbox);have n10_:=a_ ((by rw [hg];exact (below_size (bel_)):w.heap.size≤gb799));have n11_:=a_ ((by rw [hg];exact (below_size (bel_)):w.heap.size≤gb799));have n12_:=a_ ((by rw [hg];exact Nat.ne_of_lt (blk_lt (g:=gb775) (o:=.cells #[.slice Ao22 t763.length co22,.int .i64 t766,.bool t767] 25 (0,0)) (bp_ BK775.out)):gb775≠gb799));have n13_:=a_ ((by rw [hg];exact Nat.ne_of_gt (blk_lt (g:=gb775) (o:=.cells #[.slice Ao22 t763.length co22,.int .i64 t766,.bool t767] 25 (0,0)) (bp_ BK775.out)):gb799≠gb775));have n14_:=a_ ((by rw [hg];exact Nat.ne_of_lt (blk_lt (g:=gb776) (o:=.cells #[.int .i64 t768,.int .i64 t769,.int .i64 t770,.int .i64 t771,.int .i64 t772,.int .i64 t773,.string t774] 44 (0,0)) (bp_ BK776.out)):gb776≠gb799));have n15_:=a_ ((by rw [hg];exact Nat.ne_of_gt (blk_lt (g:=gb776) (o:=.cells #[.int .i64 t768,.int .i64 t769,.int .i64 t770,.int .i64 t771,.int .i64 t772,.int .i64 t773,.string t774] 44 (0,0)) (bp_ BK776.out)):gb799≠gb776));have n16_:=a_ ((by rw [hg];exact Nat.ne_of_lt (blk_lt (g:=gb783) (o:=.cells #[.slice Ao28 t777.length co28,.int .i64 t780,.bool t781] 25 (0,0)) (bp_ BK783.out)):gb783≠gb799));have n17_:=a_ ((by rw [hg];exact Nat.ne_of_gt (blk_lt (g:=gb783) (o:=.cells #[.slice Ao28 t777.length co28,.int .i64 t780,.bool t781] 25 (0,0)) (bp_ BK783.out)):gb799≠gb783));have n18_:=a_ ((by rw [hg];exact Nat.ne_of_lt (blk_lt (g:=gb790) (o:=.cells #[.slice Ao36 t784.length co36,.int .i64 t787,.bool t788] 25 (0,0)) (bp_ BK790.out)):gb790≠gb799));have n19_:=a_ ((by rw [hg];exact Nat.ne_of_gt (blk_lt (g:=gb790) (o:=.cells #[.slice Ao36 t784.length co36,.int .i64 t787,.bool t788] 25 (0,0)) (bp_ BK790.out)):gb799≠gb790));clear HO765;clear HO779;clear HO786;clear HO795;clear BK775;clear BK776;clear BK783;clear BK790;clear HB;have HO765:=n0_;have HO779:=n1_;have HO786:=n2_;have HO795:=n3_;have BK775:=n4_;have BK776:=n5_;have BK783:=n6_;have BK790:=n7_;have HB:=n8_;have BK799:=n9_;have GW799:=n10_;have GE799:=n11_;have NB775_799:=n12_;have NB799_775:=n13_;have NB776_799:=n14_;have NB799_776:=n15_;have NB783_799:=n16_;have NB799_783:=n17_;have NB790_799:=n18_;have NB799_790:=n19_;clear n0_ n1_ n2_ n3_ n4_ n5_ n6_ n7_ n8_ n9_ n10_ n11_ n12_ n13_ n14_ n15_ n16_ n17_ n18_ n19_;clear hb hbox hg;obtain ⟨Ao47,co47,eo47⟩:=Kd.R_slice HO795.out;subst eo47;have hnb48:=NB799_775.out;have hnc48:=NB775_799.out;have hnb49:=NB799_776.out;have hnc49:=NB776_799.out;have hnb50:=NB799_783.out;have hnc50:=NB783_799.out;have hnb51:=NB799_790.out;have hnc51:=NB790_799.out;have Z52_0:=cz_ BK799.out 0 (.slice none 0 0);have Z52_1:=cz_ BK799.out 1 (.int .i64 0);have Z52_2:=cz_ BK799.out 2 (.bool false);have Y52_0:=bF_ BK799.out 0;have Y52_1:=bF_ BK799.out 1;have Y52_2:=bF_ BK799.out 2;have Z53_0:=cz_ BK790.out 0 (.slice Ao36 t784.length co36);have Z53_1:=cz_ BK790.out 1 (.int .i64 t787);have Z53_2:=cz_ BK790.out 2 (.bool t788);have Y53_0:=bF_ BK790.out 0;have Y53_1:=bF_ BK790.out 1;have Y53_2:=bF_ BK790.out 2)|((with_reducible refine gC_ (f:=34) rfl ?_);refine gl_ 64 Tryd.func34 #[.agg #[.slice Ao36 t784.length co36,.int .i64 t787,.bool t788]] ?_;(with_reducible refine (impl_ServerSync.calls k _ _ t784 t787 t788 t800 t803 t804 t805 _ ?side1 ?side2 A11.out ?side3).mono ?_);(case side1=>refine (Kd.R_reads' (e:=44) (base:=w.heap.size) (ok:=fun k_=>((((True∧some k_≠(.slice Ao22 t763.length co22:Value).ownBlock)∧some k_≠(.slice Ao28 t777.length co28:Value).ownBlock)∧k_≠gb776)∧some k_≠(.slice Ao47 t793.length co47:Value).ownBlock)) (n:=t784.length) (c:=co36) ?_).2.2;exact (by (with_reducible repeat (first|apply Kd.R_alloc|apply Kd.R_drewN|apply Kd.R_drew));exact (Kd.R_mono (rf3_ (g:=gb799) (Kd.R_types HO786.out BK799.out (by decide)) (fun _ hk=>hk.2) (.slice Ao47 t793.length co47) (.int .i64 t796) (.bool t797)) (fun _ h_=>h_.1))));(case side2=>exact (Kd.R_reads' HO786.out).2.1);(case side3=>exact Glob.below HG.out (bel_));rintro e w54 ⟨v801,rfl,ho0,hb⟩;refine ⟨_,rfl,?_⟩;have n0_:=a_ (Kd.R_elder' (by (with_reducible repeat (first|apply Kd.R_alloc|apply Kd.R_drewN|apply Kd.R_drew));exact (Kd.R_mono (rf3_ (g:=gb799) (Kd.R_types HO765.out BK799.out (by decide)) (fun _ hk=>hk.2) (.slice Ao47 t793.length co47) (.int .i64 t796) (.bool t797)) (fun _ h_=>h_.1))) (Kd.R_base ho0) hb);have n1_:=a_ (Kd.R_elder' (by (with_reducible repeat (first|apply Kd.R_alloc|apply Kd.R_drewN|apply Kd.R_drew));exact (Kd.R_mono (rf3_ (g:=gb799) (Kd.R_types HO779.out BK799.out (by decide)) (fun _ hk=>hk.2) (.slice Ao47 t793.length co47) (.int .i64 t796) (.bool t797)) (fun _ h_=>h_.1))) (Kd.R_base ho0) hb);have n2_:=a_ (Kd.R_elder' (by (with_reducible repeat (first|apply Kd.R_alloc|apply Kd.R_drewN|apply Kd.R_drew));exact (Kd.R_mono (rf3_ (g:=gb799) (Kd.R_types HO786.out BK799.out (by decide)) (fun _ hk=>hk.2) (.slice Ao47 t793.length co47) (.int .i64 t796) (.bool t797)) (fun _ h_=>h_.1))) (Kd.R_base ho0) hb);have n3_:=a_ (Kd.R_elder' (by (with_reducible repeat (first|apply Kd.R_alloc|apply Kd.R_drewN|apply Kd.R_drew));exact (Kd.R_mono (rf3_ (g:=gb799) (Kd.R_types HO795.out BK799.out (by decide)) (fun _ hk=>hk.2) (.slice Ao47 t793.length co47) (.int .i64 t796) (.bool t797)) (fun _ h_=>h_.1))) (Kd.R_base ho0) hb);have n4_:=a_ (Kd.R_lower (Kd.R_newB (Kd.R_new' (Kd.R_new' (Kd.R_new' (Kd.R_new' ho0 (Kd.R_lt (by (with_reducible repeat (first|apply Kd.R_alloc|apply Kd.R_drewN|apply Kd.R_drew));exact (Kd.R_mono (rf3_ (g:=gb799) (Kd.R_types HO765.out BK799.out (by decide)) (fun _ hk=>hk.2) (.slice Ao47 t793.length co47) (.int .i64 t796) (.bool t797)) (fun _ h_=>h_.1))))) (Kd.R_lt (by (with_reducible repeat (first|apply Kd.R_alloc|apply Kd.R_drewN|apply Kd.R_drew));exact (Kd.R_mono (rf3_ (g:=gb799) (Kd.R_types HO779.out BK799.out (by decide)) (fun _ hk=>hk.2) (.slice Ao47 t793.length co47) (.int .i64 t796) (.bool t797)) (fun _ h_=>h_.1))))) (Kd.R_lt (by (with_reducible repeat (first|apply Kd.R_alloc|apply Kd.R_drewN|apply Kd.R_drew));exact (Kd.R_mono (rf3_ (g:=gb799) (Kd.R_types HO786.out BK799.out (by decide)) (fun _ hk=>hk.2) (.slice Ao47 t793.length co47) (.int .i64 t796) (.bool t797)) (fun _ h_=>h_.1))))) (Kd.R_lt (by (with_reducible repeat (first|apply Kd.R_alloc|apply Kd.R_drewN|apply Kd.R_drew));exact (Kd.R_mono (rf3_ (g:=gb799) (Kd.R_types HO795.out BK799.out (by decide)) (fun _ hk=>hk.2) (.slice Ao47 t793.length co47) (.int .i64 t796) (.bool t797)) (fun _ h_=>h_.1))))) (g:=gb776) (o:=.cells #[.int .i64 t768,.int .i64 t769,.int .i64 t770,.int .i64 t771,.int .i64 t772,.int .i64 t773,.string t774] 44 (0,0)) (fp1_ NB776_799.out BK776.out)) (below_size (bel_)));have n5_:=a_ (blk_below (g:=gb775) (o:=.cells #[.slice Ao22 t763.length co22,.int .i64 t766,.bool t767] 25 (0,0)) (fp1_ NB775_799.out BK775.out) hb);have n6_:=a_ (blk_below (g:=gb776) (o:=.cells #[.int .i64 t768,.int .i64 t769,.int .i64 t770,.int .i64 t771,.int .i64 t772,.int .i64 t773,.string t774] 44 (0,0)) (fp1_ NB776_799.out BK776.out) hb);have n7_:=a_ (blk_below (g:=gb783) (o:=.cells #[.slice Ao28 t777.length co28,.int .i64 t780,.bool t781] 25 (0,0)) (fp1_ NB783_799.out BK783.out) hb);have n8_:=a_ (blk_below (g:=gb790) (o:=.cells #[.slice Ao36 t784.length co36,.int .i64 t787,.bool t788] 25 (0,0)) (fp1_ NB790_799.out BK790.out) hb);have n9_:=a_ (blk_below (g:=gb799) (o:=.cells #[.slice Ao47 t793.length co47,.int .i64 t796,.bool t797] 25 (0,0)) (k3p_ BK799.out) hb);have n10_:=a_ (bS_ (bel_) hb);clear HO765;clear HO779;clear HO786;clear HO795;clear BK775;clear BK776;clear BK783;clear BK790;clear BK799;clear HB;have HO765:=n0_;have HO779:=n1_;have HO786:=n2_;have HO795:=n3_;have HO802:=n4_;have BK775:=n5_;have BK776:=n6_;have BK783:=n7_;have BK790:=n8_;have BK799:=n9_;have HB:=n10_;clear n0_ n1_ n2_ n3_ n4_ n5_ n6_ n7_ n8_ n9_ n10_;(try clear hb ho0))|((with_reducible refine gD_ (N:=11) rfl ?_);refine bx_ 11 (#[.slice none 0 0,.int .i64 0,.bool false]) 25 ?_;intro gb806 hg w55 hbox hb;have n0_:=a_ (Kd.R_below (rp_ HO765.out) hb);have n1_:=a_ (Kd.R_below (rp_ HO779.out) hb);have n2_:=a_ (Kd.R_below (rp_ HO786.out) hb);have n3_:=a_ (Kd.R_below (rp_ HO795.out) hb);have n4_:=a_ (Kd.R_below (rp_ HO802.out) hb);have n5_:=a_ (blk_below (g:=gb775) (o:=.cells #[.slice Ao22 t763.length co22,.int .i64 t766,.bool t767] 25 (0,0)) (bp_ BK775.out) hb);have n6_:=a_ (blk_below (g:=gb776) (o:=.cells #[.int .i64 t768,.int .i64 t769,.int .i64 t770,.int .i64 t771,.int .i64 t772,.int .i64 t773,.string t774] 44 (0,0)) (bp_ BK776.out) hb);have n7_:=a_ (blk_below (g:=gb783) (o:=.cells #[.slice Ao28 t777.length co28,.int .i64 t780,.bool t781] 25 (0,0)) (bp_ BK783.out) hb);have n8_:=a_ (blk_below (g:=gb790) (o:=.cells #[.slice Ao36 t784.length co36,.int .i64 t787,.bool t788] 25 (0,0)) (bp_ BK790.out) hb);have n9_:=a_ (blk_below (g:=gb799) (o:=.cells #[.slice Ao47 t793.length co47,.int .i64 t796,.bool t797] 25 (0,0)) (bp_ BK799.out) hb);have n10_:=a_ (bS_ (bel_) hb);have n11_:=a_ (hbox);have n12_:=a_ ((by rw [hg];exact (below_size (bel_)):w.heap.size≤gb806));have n13_:=a_ ((by rw [hg];exact (below_size (bel_)):w.heap.size≤gb806));have n14_:=a_ ((by rw [hg];exact Nat.ne_of_lt (blk_lt (g:=gb775) (o:=.cells #[.slice Ao22 t763.length co22,.int .i64 t766,.bool t767] 25 (0,0)) (bp_ BK775.out)):gb775≠gb806));have n15_:=a_ ((by rw [hg];exact Nat.ne_of_gt (blk_lt (g:=gb775) (o:=.cells #[.slice Ao22 t763.length co22,.int .i64 t766,.bool t767] 25 (0,0)) (bp_ BK775.out)):gb806≠gb775));have n16_:=a_ ((by rw [hg];exact Nat.ne_of_lt (blk_lt (g:=gb776) (o:=.cells #[.int .i64 t768,.int .i64 t769,.int .i64 t770,.int .i64 t771,.int .i64 t772,.int .i64 t773,.string t774] 44 (0,0)) (bp_ BK776.out)):gb776≠gb806));have n17_:=a_ ((by rw [hg];exact Nat.ne_of_gt (blk_lt (g:=gb776) (o:=.cells #[.int .i64 t768,.int .i64 t769,.int .i64 t770,.int .i64 t771,.int .i64 t772,.int .i64 t773,.string t774] 44 (0,0)) (bp_ BK776.out)):gb806≠gb776));have n18_:=a_ ((by rw [hg];exact Nat.ne_of_lt (blk_lt (g:=gb783) (o:=.cells #[.slice Ao28 t777.length co28,.int .i64 t780,.bool t781] 25 (0,0)) (bp_ BK783.out)):gb783≠gb806));have n19_:=a_ ((by rw [hg];exact Nat.ne_of_gt (blk_lt (g:=gb783) (o:=.cells #[.slice Ao28 t777.length co28,.int .i64 t780,.bool t781] 25 (0,0)) (bp_ BK783.out)):gb806≠gb783));have n20_:=a_ ((by rw [hg];exact Nat.ne_of_lt (blk_lt (g:=gb790) (o:=.cells #[.slice Ao36 t784.length co36,.int .i64 t787,.bool t788] 25 (0,0)) (bp_ BK790.out)):gb790≠gb806));have n21_:=a_ ((by rw [hg];exact Nat.ne_of_gt (blk_lt (g:=gb790) (o:=.cells #[.slice Ao36 t784.length co36,.int .i64 t787,.bool t788] 25 (0,0)) (bp_ BK790.out)):gb806≠gb790));have n22_:=a_ ((by rw [hg];exact Nat.ne_of_lt (blk_lt (g:=gb799) (o:=.cells #[.slice Ao47 t793.length co47,.int .i64 t796,.bool t797] 25 (0,0)) (bp_ BK799.out)):gb799≠gb806));have n23_:=a_ ((by rw [hg];exact Nat.ne_of_gt (blk_lt (g:=gb799) (o:=.cells #[.slice Ao47 t793.length co47,.int .i64 t796,.bool t797] 25 (0,0)) (bp_ BK799.out)):gb806≠gb799));clear HO765;clear HO779;clear HO786;clear HO795;clear HO802;clear BK775;clear BK776;clear BK783;clear BK790;clear BK799;clear HB;have HO765:=n0_;have HO779:=n1_;have HO786:=n2_;have HO795:=n3_;have HO802:=n4_;have BK775:=n5_;have BK776:=n6_;have BK783:=n7_;have BK790:=n8_;have BK799:=n9_;have HB:=n10_;have BK806:=n11_;have GW806:=n12_;have GE806:=n13_;have NB775_806:=n14_;have NB806_775:=n15_;have NB776_806:=n16_;have NB806_776:=n17_;have NB783_806:=n18_;have NB806_783:=n19_;have NB790_806:=n20_;have NB806_790:=n21_;have NB799_806:=n22_;have NB806_799:=n23_;clear n0_ n1_ n2_ n3_ n4_ n5_ n6_ n7_ n8_ n9_ n10_ n11_ n12_ n13_ n14_ n15_ n16_ n17_ n18_ n19_ n20_ n21_ n22_ n23_;clear hb hbox hg;obtain ⟨Ao56,co56,eo56⟩:=Kd.R_slice HO802.out;subst eo56;have hnb57:=NB806_775.out;have hnc57:=NB775_806.out;have hnb58:=NB806_776.out;have hnc58:=NB776_806.out;have hnb59:=NB806_783.out;have hnc59:=NB783_806.out;have hnb60:=NB806_790.out;have hnc60:=NB790_806.out;have hnb61:=NB806_799.out;have hnc61:=NB799_806.out;have Z62_0:=cz_ BK806.out 0 (.slice none 0 0);have Z62_1:=cz_ BK806.out 1 (.int .i64 0);have Z62_2:=cz_ BK806.out 2 (.bool false);have Y62_0:=bF_ BK806.out 0;have Y62_1:=bF_ BK806.out 1;have Y62_2:=bF_ BK806.out 2))
        have n0_:Aside0 (Kd.R k44 44 (((w55.setCell ⟨gb806,0,none⟩ (.slice Ao56 t800.length co56)).setCell ⟨gb806,1,none⟩ (.int .i64 t803)).setCell ⟨gb806,2,none⟩ (.bool t804)) w.heap.size (fun k_=>some k_≠(.slice Ao28 t777.length co28:Value).ownBlock∧some k_≠(.slice Ao36 t784.length co36:Value).ownBlock∧some k_≠(.slice Ao47 t793.length co47:Value).ownBlock∧some k_≠(.slice Ao56 t800.length co56:Value).ownBlock∧k_≠gb776) (.slice Ao22 t763.length co22) t763):=⟨by (with_reducible repeat (first|apply Kd.R_alloc|apply Kd.R_drewN|apply Kd.R_drew));exact Kd.R_mono (rf3_ (g:=gb806) (Kd.R_types HO765.out BK806.out (by decide)) (fun _ hk=>hk.2) (.slice Ao56 t800.length co56) (.int .i64 t803) (.bool t804)) (fun _ hk=>⟨hk.1.1.1.1.2,⟨hk.1.1.1.2,⟨hk.1.1.2,⟨hk.1.2,hk.1.1.1.1.1.2⟩⟩⟩⟩)⟩
        have n1_:Aside0 (Kd.R k44 44 (((w55.setCell ⟨gb806,0,none⟩ (.slice Ao56 t800.length co56)).setCell ⟨gb806,1,none⟩ (.int .i64 t803)).setCell ⟨gb806,2,none⟩ (.bool t804)) w.heap.size (fun k_=>some k_≠(.slice Ao22 t763.length co22:Value).ownBlock∧some k_≠(.slice Ao36 t784.length co36:Value).ownBlock∧some k_≠(.slice Ao47 t793.length co47:Value).ownBlock∧some k_≠(.slice Ao56 t800.length co56:Value).ownBlock∧k_≠gb776) (.slice Ao28 t777.length co28) t777):=⟨by (with_reducible repeat (first|apply Kd.R_alloc|apply Kd.R_drewN|apply Kd.R_drew));exact Kd.R_mono (rf3_ (g:=gb806) (Kd.R_types HO779.out BK806.out (by decide)) (fun _ hk=>hk.2) (.slice Ao56 t800.length co56) (.int .i64 t803) (.bool t804)) (fun _ hk=>⟨hk.1.1.1.1.1.2,⟨hk.1.1.1.2,⟨hk.1.1.2,⟨hk.1.2,hk.1.1.1.1.2⟩⟩⟩⟩)⟩
        have n2_:Aside0 (Kd.R k44 44 (((w55.setCell ⟨gb806,0,none⟩ (.slice Ao56 t800.length co56)).setCell ⟨gb806,1,none⟩ (.int .i64 t803)).setCell ⟨gb806,2,none⟩ (.bool t804)) w.heap.size (fun k_=>some k_≠(.slice Ao22 t763.length co22:Value).ownBlock∧some k_≠(.slice Ao28 t777.length co28:Value).ownBlock∧some k_≠(.slice Ao47 t793.length co47:Value).ownBlock∧some k_≠(.slice Ao56 t800.length co56:Value).ownBlock∧k_≠gb776) (.slice Ao36 t784.length co36) t784):=⟨by (with_reducible repeat (first|apply Kd.R_alloc|apply Kd.R_drewN|apply Kd.R_drew));exact Kd.R_mono (rf3_ (g:=gb806) (Kd.R_types HO786.out BK806.out (by decide)) (fun _ hk=>hk.2) (.slice Ao56 t800.length co56) (.int .i64 t803) (.bool t804)) (fun _ hk=>⟨hk.1.1.1.1.1.2,⟨hk.1.1.1.1.2,⟨hk.1.1.2,⟨hk.1.2,hk.1.1.1.2⟩⟩⟩⟩)⟩
        have n3_:Aside0 (Kd.R k44 44 (((w55.setCell ⟨gb806,0,none⟩ (.slice Ao56 t800.length co56)).setCell ⟨gb806,1,none⟩ (.int .i64 t803)).setCell ⟨gb806,2,none⟩ (.bool t804)) w.heap.size (fun k_=>some k_≠(.slice Ao22 t763.length co22:Value).ownBlock∧some k_≠(.slice Ao28 t777.length co28:Value).ownBlock∧some k_≠(.slice Ao36 t784.length co36:Value).ownBlock∧some k_≠(.slice Ao56 t800.length co56:Value).ownBlock∧k_≠gb776) (.slice Ao47 t793.length co47) t793):=⟨by (with_reducible repeat (first|apply Kd.R_alloc|apply Kd.R_drewN|apply Kd.R_drew));exact Kd.R_mono (rf3_ (g:=gb806) (Kd.R_types HO795.out BK806.out (by decide)) (fun _ hk=>hk.2) (.slice Ao56 t800.length co56) (.int .i64 t803) (.bool t804)) (fun _ hk=>⟨hk.1.1.1.1.1.2,⟨hk.1.1.1.1.2,⟨hk.1.1.1.2,⟨hk.1.2,hk.1.1.2⟩⟩⟩⟩)⟩
        have n4_:Aside0 (Kd.R k44 44 (((w55.setCell ⟨gb806,0,none⟩ (.slice Ao56 t800.length co56)).setCell ⟨gb806,1,none⟩ (.int .i64 t803)).setCell ⟨gb806,2,none⟩ (.bool t804)) w.heap.size (fun k_=>some k_≠(.slice Ao22 t763.length co22:Value).ownBlock∧some k_≠(.slice Ao28 t777.length co28:Value).ownBlock∧some k_≠(.slice Ao36 t784.length co36:Value).ownBlock∧some k_≠(.slice Ao47 t793.length co47:Value).ownBlock∧k_≠gb776) (.slice Ao56 t800.length co56) t800):=⟨by (with_reducible repeat (first|apply Kd.R_alloc|apply Kd.R_drewN|apply Kd.R_drew));exact Kd.R_mono (rf3_ (g:=gb806) (Kd.R_types HO802.out BK806.out (by decide)) (fun _ hk=>hk.2) (.slice Ao56 t800.length co56) (.int .i64 t803) (.bool t804)) (fun _ hk=>⟨hk.1.1.1.1.1.2,⟨hk.1.1.1.1.2,⟨hk.1.1.1.2,⟨hk.1.1.2,hk.1.2⟩⟩⟩⟩)⟩
        have n5_:Aside0 ((((w55.setCell ⟨gb806,0,none⟩ (.slice Ao56 t800.length co56)).setCell ⟨gb806,1,none⟩ (.int .i64 t803)).setCell ⟨gb806,2,none⟩ (.bool t804)).heap[gb775]?=some (.cells #[.slice Ao22 t763.length co22,.int .i64 t766,.bool t767] 25 (0,0))):=⟨fp1_ NB775_806.out BK775.out⟩
        have n6_:Aside0 ((((w55.setCell ⟨gb806,0,none⟩ (.slice Ao56 t800.length co56)).setCell ⟨gb806,1,none⟩ (.int .i64 t803)).setCell ⟨gb806,2,none⟩ (.bool t804)).heap[gb776]?=some (.cells #[.int .i64 t768,.int .i64 t769,.int .i64 t770,.int .i64 t771,.int .i64 t772,.int .i64 t773,.string t774] 44 (0,0))):=⟨fp1_ NB776_806.out BK776.out⟩
        have n7_:Aside0 ((((w55.setCell ⟨gb806,0,none⟩ (.slice Ao56 t800.length co56)).setCell ⟨gb806,1,none⟩ (.int .i64 t803)).setCell ⟨gb806,2,none⟩ (.bool t804)).heap[gb783]?=some (.cells #[.slice Ao28 t777.length co28,.int .i64 t780,.bool t781] 25 (0,0))):=⟨fp1_ NB783_806.out BK783.out⟩
        have n8_:Aside0 ((((w55.setCell ⟨gb806,0,none⟩ (.slice Ao56 t800.length co56)).setCell ⟨gb806,1,none⟩ (.int .i64 t803)).setCell ⟨gb806,2,none⟩ (.bool t804)).heap[gb790]?=some (.cells #[.slice Ao36 t784.length co36,.int .i64 t787,.bool t788] 25 (0,0))):=⟨fp1_ NB790_806.out BK790.out⟩
        have n9_:Aside0 ((((w55.setCell ⟨gb806,0,none⟩ (.slice Ao56 t800.length co56)).setCell ⟨gb806,1,none⟩ (.int .i64 t803)).setCell ⟨gb806,2,none⟩ (.bool t804)).heap[gb799]?=some (.cells #[.slice Ao47 t793.length co47,.int .i64 t796,.bool t797] 25 (0,0))):=⟨fp1_ NB799_806.out BK799.out⟩
        have n10_:Aside0 ((((w55.setCell ⟨gb806,0,none⟩ (.slice Ao56 t800.length co56)).setCell ⟨gb806,1,none⟩ (.int .i64 t803)).setCell ⟨gb806,2,none⟩ (.bool t804)).heap[gb806]?=some (.cells #[.slice Ao56 t800.length co56,.int .i64 t803,.bool t804] 25 (0,0))):=⟨k3p_ BK806.out⟩
        have n11_:Aside0 (Below w.heap.size w (((w55.setCell ⟨gb806,0,none⟩ (.slice Ao56 t800.length co56)).setCell ⟨gb806,1,none⟩ (.int .i64 t803)).setCell ⟨gb806,2,none⟩ (.bool t804))):=⟨bel_⟩
        (try clear HO765)
        (try clear HO779)
        (try clear HO786)
        (try clear HO795)
        (try clear HO802)
        (try clear BK775)
        (try clear BK776)
        (try clear BK783)
        (try clear BK790)
        (try clear BK799)
        (try clear BK806)
        (try clear HB)
        generalize (((w55.setCell ⟨gb806,0,none⟩ (.slice Ao56 t800.length co56)).setCell ⟨gb806,1,none⟩ (.int .i64 t803)).setCell ⟨gb806,2,none⟩ (.bool t804))=w63 at n0_ n1_ n2_ n3_ n4_ n5_ n6_ n7_ n8_ n9_ n10_ n11_ ⊢
        have HO765:=n0_
        have HO779:=n1_
        have HO786:=n2_
        have HO795:=n3_
        have HO802:=n4_
        have BK775:=n5_
        have BK776:=n6_
        have BK783:=n7_
        have BK790:=n8_
        have BK799:=n9_
        have BK806:=n10_
        have HB:=n11_
        clear n0_ n1_ n2_ n3_ n4_ n5_ n6_ n7_ n8_ n9_ n10_ n11_
        have n0_:=a_ (Kd.R_drew HO765.out)
        have n1_:=a_ (Kd.R_drew HO779.out)
        have n2_:=a_ (Kd.R_drew HO786.out)
        have n3_:=a_ (Kd.R_drew HO795.out)
        have n4_:=a_ (Kd.R_drew HO802.out)
        have n5_:=a_ (bD_ BK775.out)
        have n6_:=a_ (bD_ BK776.out)
        have n7_:=a_ (bD_ BK783.out)
        have n8_:=a_ (bD_ BK790.out)
        have n9_:=a_ (bD_ BK799.out)
        have n10_:=a_ (bD_ BK806.out)
        have n11_:=a_ (below_drew1 HB.out)
        clear HO765
        clear HO779
        clear HO786
        clear HO795
        clear HO802
        clear BK775
        clear BK776
        clear BK783
        clear BK790
        clear BK799
        clear BK806
        clear HB
        have HO765:=n0_
        have HO779:=n1_
        have HO786:=n2_
        have HO795:=n3_
        have HO802:=n4_
        have BK775:=n5_
        have BK776:=n6_
        have BK783:=n7_
        have BK790:=n8_
        have BK799:=n9_
        have BK806:=n10_
        have HB:=n11_
        clear n0_ n1_ n2_ n3_ n4_ n5_ n6_ n7_ n8_ n9_ n10_ n11_
        refine start_ (n:=10) (S:=fun w'=>w'.cell? ⟨gb806,0,none⟩=some (.slice Ao56 t800.length co56)∧w'.cell? ⟨gb806,1,none⟩=some (.int .i64 t803)∧w'.cell? ⟨gb806,2,none⟩=some (.bool t804)∧w'.cell? ⟨gb776,0,none⟩=some (.int .i64 t768)∧w'.cell? ⟨gb776,1,none⟩=some (.int .i64 t769)∧w'.cell? ⟨gb776,2,none⟩=some (.int .i64 t770)∧w'.cell? ⟨gb776,3,none⟩=some (.int .i64 t771)∧w'.cell? ⟨gb776,4,none⟩=some (.int .i64 t772)∧w'.cell? ⟨gb776,5,none⟩=some (.int .i64 t773)∧w'.cell? ⟨gb776,6,none⟩=some (.string t774)) (ds:=[]) #[false,false,false,false,false,false,false,false,false,false] (by kernel_rfl) rfl rfl ⟨(bC_ BK806.out 0).trans rfl,(bC_ BK806.out 1).trans rfl,(bC_ BK806.out 2).trans rfl,(bC_ BK776.out 0).trans rfl,(bC_ BK776.out 1).trans rfl,(bC_ BK776.out 2).trans rfl,(bC_ BK776.out 3).trans rfl,(bC_ BK776.out 4).trans rfl,(bC_ BK776.out 5).trans rfl,(bC_ BK776.out 6).trans rfl⟩ (fun hHeld=>?_);refine with_tabW laws_FnHearAgain.tab10 laws_FnHearAgain.bits10 (fun HT_ HW_=>?_)
        generalize w63.drew=w64 at HO765 HO779 HO786 HO795 HO802 BK775 BK776 BK783 BK790 BK799 BK806 HB hHeld ⊢
        refine take_ (i:=0) (N:=some 68) (v:=?_) (a':=?_) #[true,false,false,false,false,false,false,false,false,false] rfl rfl (take_ofW HT_.out HW_.out (by kernel_rfl)) (fun _ _ _ h=>h) (Or.inl ⟨by rfl,?_⟩) hHeld ?_ ?_
        rotate_left
        ·rintro w' ⟨s0,s1,s2,s3,s4,s5,s6,s7,s8,s9⟩
         go_simp
         with_reducible rfl
        rotate_left
        ·simp only [Act.put,List.setIfInBounds_toArray,List.set_cons_zero,List.set_cons_succ,i64_w,i32_w]
         rfl
        refine take_ (i:=2) (N:=some 70) (v:=?_) (a':=?_) #[true,false,true,false,false,false,false,false,false,false] rfl rfl (take_ofW HT_.out HW_.out (by kernel_rfl)) (fun _ _ _ h=>h) (Or.inl ⟨by rfl,?_⟩) hHeld ?_ ?_
        rotate_left
        ·rintro w' ⟨s0,s1,s2,s3,s4,s5,s6,s7,s8,s9⟩
         go_simp
         with_reducible rfl
        rotate_left
        ·simp only [Act.put,List.setIfInBounds_toArray,List.set_cons_zero,List.set_cons_succ,i64_w,i32_w]
         rfl
        refine join_ (σ:=Value×Value×Nat) 2 #[true,true,true,true,true,true,true,true,false,false] (fun s_=>[(69,.agg #[s_.1,.int .i64 t810,.bool t811]),(71,.tuple #[.agg #[s_.2.1,.int .i64 t815,.bool t816],.bool false]),(13,.pointer (some ⟨s_.2.2,0,none⟩)),(67,.tuple #[.agg #[s_.2.1,.int .i64 t815,.bool t816],.bool false]),(72,.agg #[s_.2.1,.int .i64 t815,.bool t816]),(73,.bool false)]) (fun s_ w'=>(w'.cell? ⟨gb806,0,none⟩=some (.slice Ao56 t800.length co56)∧w'.cell? ⟨gb806,1,none⟩=some (.int .i64 t803)∧w'.cell? ⟨gb806,2,none⟩=some (.bool t804)∧w'.cell? ⟨gb776,0,none⟩=some (.int .i64 t768)∧w'.cell? ⟨gb776,1,none⟩=some (.int .i64 t769)∧w'.cell? ⟨gb776,2,none⟩=some (.int .i64 t770)∧w'.cell? ⟨gb776,3,none⟩=some (.int .i64 t771)∧w'.cell? ⟨gb776,4,none⟩=some (.int .i64 t772)∧w'.cell? ⟨gb776,5,none⟩=some (.int .i64 t773)∧w'.cell? ⟨gb776,6,none⟩=some (.string t774))∧(Kd.R k44 44 w' w.heap.size (fun k_=>some k_≠(.slice Ao28 t777.length co28:Value).ownBlock∧some k_≠(.slice Ao36 t784.length co36:Value).ownBlock∧some k_≠(.slice Ao47 t793.length co47:Value).ownBlock∧some k_≠(.slice Ao56 t800.length co56:Value).ownBlock∧some k_≠(s_.1:Value).ownBlock∧some k_≠(s_.2.1:Value).ownBlock∧k_≠gb776) (.slice Ao22 t763.length co22) t763)∧(Kd.R k44 44 w' w.heap.size (fun k_=>some k_≠(.slice Ao22 t763.length co22:Value).ownBlock∧some k_≠(.slice Ao36 t784.length co36:Value).ownBlock∧some k_≠(.slice Ao47 t793.length co47:Value).ownBlock∧some k_≠(.slice Ao56 t800.length co56:Value).ownBlock∧some k_≠(s_.1:Value).ownBlock∧some k_≠(s_.2.1:Value).ownBlock∧k_≠gb776) (.slice Ao28 t777.length co28) t777)∧(Kd.R k44 44 w' w.heap.size (fun k_=>some k_≠(.slice Ao22 t763.length co22:Value).ownBlock∧some k_≠(.slice Ao28 t777.length co28:Value).ownBlock∧some k_≠(.slice Ao47 t793.length co47:Value).ownBlock∧some k_≠(.slice Ao56 t800.length co56:Value).ownBlock∧some k_≠(s_.1:Value).ownBlock∧some k_≠(s_.2.1:Value).ownBlock∧k_≠gb776) (.slice Ao36 t784.length co36) t784)∧(Kd.R k44 44 w' w.heap.size (fun k_=>some k_≠(.slice Ao22 t763.length co22:Value).ownBlock∧some k_≠(.slice Ao28 t777.length co28:Value).ownBlock∧some k_≠(.slice Ao36 t784.length co36:Value).ownBlock∧some k_≠(.slice Ao56 t800.length co56:Value).ownBlock∧some k_≠(s_.1:Value).ownBlock∧some k_≠(s_.2.1:Value).ownBlock∧k_≠gb776) (.slice Ao47 t793.length co47) t793)∧(Kd.R k44 44 w' w.heap.size (fun k_=>some k_≠(.slice Ao22 t763.length co22:Value).ownBlock∧some k_≠(.slice Ao28 t777.length co28:Value).ownBlock∧some k_≠(.slice Ao36 t784.length co36:Value).ownBlock∧some k_≠(.slice Ao47 t793.length co47:Value).ownBlock∧some k_≠(s_.1:Value).ownBlock∧some k_≠(s_.2.1:Value).ownBlock∧k_≠gb776) (.slice Ao56 t800.length co56) t800)∧(Kd.R k44 44 w' w.heap.size (fun k_=>some k_≠(.slice Ao22 t763.length co22:Value).ownBlock∧some k_≠(.slice Ao28 t777.length co28:Value).ownBlock∧some k_≠(.slice Ao36 t784.length co36:Value).ownBlock∧some k_≠(.slice Ao47 t793.length co47:Value).ownBlock∧some k_≠(.slice Ao56 t800.length co56:Value).ownBlock∧some k_≠(s_.2.1:Value).ownBlock∧k_≠gb776) s_.1 t807)∧(Kd.R k44 44 w' w.heap.size (fun k_=>some k_≠(.slice Ao22 t763.length co22:Value).ownBlock∧some k_≠(.slice Ao28 t777.length co28:Value).ownBlock∧some k_≠(.slice Ao36 t784.length co36:Value).ownBlock∧some k_≠(.slice Ao47 t793.length co47:Value).ownBlock∧some k_≠(.slice Ao56 t800.length co56:Value).ownBlock∧some k_≠(s_.1:Value).ownBlock∧k_≠gb776) s_.2.1 t812)∧(w'.heap[gb775]?=some (.cells #[.slice Ao22 t763.length co22,.int .i64 t766,.bool t767] 25 (0,0)))∧(w'.heap[gb776]?=some (.cells #[.int .i64 t768,.int .i64 t769,.int .i64 t770,.int .i64 t771,.int .i64 t772,.int .i64 t773,.string t774] 44 (0,0)))∧(w'.heap[gb783]?=some (.cells #[.slice Ao28 t777.length co28,.int .i64 t780,.bool t781] 25 (0,0)))∧(w'.heap[gb790]?=some (.cells #[.slice Ao36 t784.length co36,.int .i64 t787,.bool t788] 25 (0,0)))∧(w'.heap[gb799]?=some (.cells #[.slice Ao47 t793.length co47,.int .i64 t796,.bool t797] 25 (0,0)))∧(w'.heap[gb806]?=some (.cells #[.slice Ao56 t800.length co56,.int .i64 t803,.bool t804] 25 (0,0)))∧(w'.heap[s_.2.2]?=some (.cells #[.slice none 0 0,.int .i64 0,.bool false] 25 (0,0)))∧(w.heap.size≤s_.2.2)∧(w.heap.size≤s_.2.2)∧(gb775≠s_.2.2)∧(s_.2.2≠gb775)∧(gb776≠s_.2.2)∧(s_.2.2≠gb776)∧(gb783≠s_.2.2)∧(s_.2.2≠gb783)∧(gb790≠s_.2.2)∧(s_.2.2≠gb790)∧(gb799≠s_.2.2)∧(s_.2.2≠gb799)∧(gb806≠s_.2.2)∧(s_.2.2≠gb806)∧(Below w.heap.size w w')) ?_ ?_
        rotate_left
        ·intro hCont
         refine two_ (i:=1) (j:=7) (Ni:=some 69) (Nj:=some 13) #[true,true,true,false,false,false,false,false,false,false] #[true,false,true,false,false,false,false,true,false,false] rfl rfl rfl rfl (two_of HT_.out (by kernel_rfl)) (by decide) (by decide) (fun K hK=>?_) (fun K hK=>?_)
         ·skip
          refine goes_ Tryd.func35 (by kernel_rfl) rfl #[.agg #[.slice Ao56 t800.length co56,.int .i64 t803,.bool t804],.int .i64 0] (by rfl) rfl rfl ar_ ?_
          with_reducible refine (impl_ServerFall.calls k _ _ t800 t803 t804 0 t807 t810 t811 _ ?side1 ?side2 A12.out ?side3).mono ?_
          (case side1=>exact cx_ (Kd.R_reads' HO802.out).2.2)
          (case side2=>exact (Kd.R_reads' HO802.out).2.1)
          (case side3=>exact Glob.below HG.out (bel_))
          rintro e w65 ⟨v808,rfl,ho0,hb⟩
          refine ⟨_,rfl,?_⟩
          have n0_:=a_ (Kd.R_elder' (rp_ HO765.out) (Kd.R_base ho0) hb)
          have n1_:=a_ (Kd.R_elder' (rp_ HO779.out) (Kd.R_base ho0) hb)
          have n2_:=a_ (Kd.R_elder' (rp_ HO786.out) (Kd.R_base ho0) hb)
          have n3_:=a_ (Kd.R_elder' (rp_ HO795.out) (Kd.R_base ho0) hb)
          have n4_:=a_ (Kd.R_elder' (rp_ HO802.out) (Kd.R_base ho0) hb)
          have n5_:=a_ (Kd.R_lower (Kd.R_newB (Kd.R_new' (Kd.R_new' (Kd.R_new' (Kd.R_new' (Kd.R_new' ho0 (Kd.R_lt (rp_ HO765.out))) (Kd.R_lt (rp_ HO779.out))) (Kd.R_lt (rp_ HO786.out))) (Kd.R_lt (rp_ HO795.out))) (Kd.R_lt (rp_ HO802.out))) (g:=gb776) (o:=.cells #[.int .i64 t768,.int .i64 t769,.int .i64 t770,.int .i64 t771,.int .i64 t772,.int .i64 t773,.string t774] 44 (0,0)) (bp_ BK776.out)) (below_size (bel_)))
          have n6_:=a_ (blk_below (g:=gb775) (o:=.cells #[.slice Ao22 t763.length co22,.int .i64 t766,.bool t767] 25 (0,0)) (bp_ BK775.out) hb)
          have n7_:=a_ (blk_below (g:=gb776) (o:=.cells #[.int .i64 t768,.int .i64 t769,.int .i64 t770,.int .i64 t771,.int .i64 t772,.int .i64 t773,.string t774] 44 (0,0)) (bp_ BK776.out) hb)
          have n8_:=a_ (blk_below (g:=gb783) (o:=.cells #[.slice Ao28 t777.length co28,.int .i64 t780,.bool t781] 25 (0,0)) (bp_ BK783.out) hb)
          have n9_:=a_ (blk_below (g:=gb790) (o:=.cells #[.slice Ao36 t784.length co36,.int .i64 t787,.bool t788] 25 (0,0)) (bp_ BK790.out) hb)
          have n10_:=a_ (blk_below (g:=gb799) (o:=.cells #[.slice Ao47 t793.length co47,.int .i64 t796,.bool t797] 25 (0,0)) (bp_ BK799.out) hb)
          have n11_:=a_ (blk_below (g:=gb806) (o:=.cells #[.slice Ao56 t800.length co56,.int .i64 t803,.bool t804] 25 (0,0)) (bp_ BK806.out) hb)
          have n12_:=a_ (bS_ (bel_) hb)
          clear HO765
          clear HO779
          clear HO786
          clear HO795
          clear HO802
          clear BK775
          clear BK776
          clear BK783
          clear BK790
          clear BK799
          clear BK806
          clear HB
          have HO765:=n0_
          have HO779:=n1_
          have HO786:=n2_
          have HO795:=n3_
          have HO802:=n4_
          have HO809:=n5_
          have BK775:=n6_
          have BK776:=n7_
          have BK783:=n8_
          have BK790:=n9_
          have BK799:=n10_
          have BK806:=n11_
          have HB:=n12_
          clear n0_ n1_ n2_ n3_ n4_ n5_ n6_ n7_ n8_ n9_ n10_ n11_ n12_
          (try clear hb)
          (try clear hb2)
          (try clear hk)
          (try clear hi)
          (try clear ho0)
          obtain ⟨Ao66,co66,eo66⟩:=Kd.R_slice HO809.out
          (first|subst eo66|(injection eo66 with f1_ f2_ f3_;have f4_:=f1_.symm;have f5_:=f3_.symm;clear f1_ f2_ f3_;subst f4_;subst f5_))
          refine hK.out _ _ ⟨(bC_ BK806.out 0).trans rfl,(bC_ BK806.out 1).trans rfl,(bC_ BK806.out 2).trans rfl,(bC_ BK776.out 0).trans rfl,(bC_ BK776.out 1).trans rfl,(bC_ BK776.out 2).trans rfl,(bC_ BK776.out 3).trans rfl,(bC_ BK776.out 4).trans rfl,(bC_ BK776.out 5).trans rfl,(bC_ BK776.out 6).trans rfl⟩ (fun hHeld=>?_)
          clear hK K
          refine norm_ (a':=?_) ?_ ?_
          rotate_left
          ·show Act.put _ (some 69) _=_
           simp only [Act.put,List.setIfInBounds_toArray,List.set_cons_zero,List.set_cons_succ,i64_w,i32_w]
           rfl
          refine two_ (i:=3) (j:=7) (Ni:=some 71) (Nj:=some 13) #[true,true,true,true,false,false,false,false,false,false] #[true,true,true,false,false,false,false,true,false,false] rfl rfl rfl rfl (two_of HT_.out (by kernel_rfl)) (by decide) (by decide) (fun K hK=>?_) (fun K hK=>?_)
          ·skip
           refine goes_ Tryd.func24 (by kernel_rfl) rfl #[.agg #[.slice Ao66 t807.length co66,.int .i64 t810,.bool t811],.agg #[.int .i64 t768,.int .i64 t769,.int .i64 t770,.int .i64 t771,.int .i64 t772,.int .i64 t773,.string t774]] (by rfl) rfl rfl ar_ ?_
           with_reducible refine (impl_ServerHear.calls k _ _ t807 t810 t811 t768 t769 t770 t771 t772 t773 t774 t812 t815 t816 false _ ?side1 ?side2 A13.out ?side3).mono ?_
           (case side1=>exact cx_ (Kd.R_reads' HO809.out).2.2)
           (case side2=>exact (Kd.R_reads' HO809.out).2.1)
           (case side3=>exact Glob.below HG.out (bel_))
           rintro e w67 ⟨v813,rfl,ho0,hb⟩
           refine ⟨_,rfl,?_⟩
           have n0_:=a_ (Kd.R_elder' (rp_ HO765.out) (Kd.R_base ho0) hb)
           have n1_:=a_ (Kd.R_elder' (rp_ HO779.out) (Kd.R_base ho0) hb)
           have n2_:=a_ (Kd.R_elder' (rp_ HO786.out) (Kd.R_base ho0) hb)
           have n3_:=a_ (Kd.R_elder' (rp_ HO795.out) (Kd.R_base ho0) hb)
           have n4_:=a_ (Kd.R_elder' (rp_ HO802.out) (Kd.R_base ho0) hb)
           have n5_:=a_ (Kd.R_elder' (rp_ HO809.out) (Kd.R_base ho0) hb)
           have n6_:=a_ (Kd.R_lower (Kd.R_newB (Kd.R_new' (Kd.R_new' (Kd.R_new' (Kd.R_new' (Kd.R_new' (Kd.R_new' ho0 (Kd.R_lt (rp_ HO765.out))) (Kd.R_lt (rp_ HO779.out))) (Kd.R_lt (rp_ HO786.out))) (Kd.R_lt (rp_ HO795.out))) (Kd.R_lt (rp_ HO802.out))) (Kd.R_lt (rp_ HO809.out))) (g:=gb776) (o:=.cells #[.int .i64 t768,.int .i64 t769,.int .i64 t770,.int .i64 t771,.int .i64 t772,.int .i64 t773,.string t774] 44 (0,0)) (bp_ BK776.out)) (below_size (bel_)))
           have n7_:=a_ (blk_below (g:=gb775) (o:=.cells #[.slice Ao22 t763.length co22,.int .i64 t766,.bool t767] 25 (0,0)) (bp_ BK775.out) hb)
           have n8_:=a_ (blk_below (g:=gb776) (o:=.cells #[.int .i64 t768,.int .i64 t769,.int .i64 t770,.int .i64 t771,.int .i64 t772,.int .i64 t773,.string t774] 44 (0,0)) (bp_ BK776.out) hb)
           have n9_:=a_ (blk_below (g:=gb783) (o:=.cells #[.slice Ao28 t777.length co28,.int .i64 t780,.bool t781] 25 (0,0)) (bp_ BK783.out) hb)
           have n10_:=a_ (blk_below (g:=gb790) (o:=.cells #[.slice Ao36 t784.length co36,.int .i64 t787,.bool t788] 25 (0,0)) (bp_ BK790.out) hb)
           have n11_:=a_ (blk_below (g:=gb799) (o:=.cells #[.slice Ao47 t793.length co47,.int .i64 t796,.bool t797] 25 (0,0)) (bp_ BK799.out) hb)
           have n12_:=a_ (blk_below (g:=gb806) (o:=.cells #[.slice Ao56 t800.length co56,.int .i64 t803,.bool t804] 25 (0,0)) (bp_ BK806.out) hb)
           have n13_:=a_ (bS_ (bel_) hb)
           clear HO765
           clear HO779
           clear HO786
           clear HO795
           clear HO802
           clear HO809
           clear BK775
           clear BK776
           clear BK783
           clear BK790
           clear BK799
           clear BK806
           clear HB
           have HO765:=n0_
           have HO779:=n1_
           have HO786:=n2_
           have HO795:=n3_
           have HO802:=n4_
           have HO809:=n5_
           have HO814:=n6_
           have BK775:=n7_
           have BK776:=n8_
           have BK783:=n9_
           have BK790:=n10_
           have BK799:=n11_
           have BK806:=n12_
           have HB:=n13_
           clear n0_ n1_ n2_ n3_ n4_ n5_ n6_ n7_ n8_ n9_ n10_ n11_ n12_ n13_
           (try clear hb)
           (try clear hb2)
           (try clear hk)
           (try clear hi)
           (try clear ho0)
           refine hK.out _ _ ⟨(bC_ BK806.out 0).trans rfl,(bC_ BK806.out 1).trans rfl,(bC_ BK806.out 2).trans rfl,(bC_ BK776.out 0).trans rfl,(bC_ BK776.out 1).trans rfl,(bC_ BK776.out 2).trans rfl,(bC_ BK776.out 3).trans rfl,(bC_ BK776.out 4).trans rfl,(bC_ BK776.out 5).trans rfl,(bC_ BK776.out 6).trans rfl⟩ (fun hHeld=>?_)
           clear hK K
           refine norm_ (a':=?_) ?_ ?_
           rotate_left
           ·show Act.put _ (some 71) _=_
            simp only [Act.put,List.setIfInBounds_toArray,List.set_cons_zero,List.set_cons_succ,i64_w,i32_w]
            rfl
           refine pure_ (i:=4) (N:=some 67) (v:=?_) (a':=?_) #[true,true,true,true,true,false,false,false,false,false] rfl rfl (any_of HT_.out (by kernel_rfl)) (fun _ _ _ h=>h) (Or.inl ⟨by rfl,?_⟩) ?_ ?_
           rotate_left
           ·intro w'
            go_simp
            with_reducible rfl
           rotate_left
           ·simp only [Act.put,List.setIfInBounds_toArray,List.set_cons_zero,List.set_cons_succ,i64_w,i32_w]
            rfl
           refine pure_ (i:=5) (N:=some 72) (v:=?_) (a':=?_) #[true,true,true,true,true,true,false,false,false,false] rfl rfl (any_of HT_.out (by kernel_rfl)) (fun _ _ _ h=>h) (Or.inl ⟨by rfl,?_⟩) ?_ ?_
           rotate_left
           ·intro w'
            go_simp
            with_reducible rfl
           rotate_left
           ·simp only [Act.put,List.setIfInBounds_toArray,List.set_cons_zero,List.set_cons_succ,i64_w,i32_w]
            rfl
           refine pure_ (i:=6) (N:=some 73) (v:=?_) (a':=?_) #[true,true,true,true,true,true,true,false,false,false] rfl rfl (any_of HT_.out (by kernel_rfl)) (fun _ _ _ h=>h) (Or.inl ⟨by rfl,?_⟩) ?_ ?_
           rotate_left
           ·intro w'
            go_simp
            with_reducible rfl
           rotate_left
           ·simp only [Act.put,List.setIfInBounds_toArray,List.set_cons_zero,List.set_cons_succ,i64_w,i32_w]
            rfl
           refine one_ (i:=7) (N:=some 13) #[true,true,true,true,true,true,true,true,false,false] rfl rfl (one_of HT_.out (by kernel_rfl)) (by decide) (fun K hK=>?_)
           refine box_step ?hg (N:=13) ?hd (cs:=#[.slice none 0 0,.int .i64 0,.bool false]) (t:=25) ?hr ?_;(case hd=>rfl);(case hg=>rfl);(case hr=>first|(go_simp;done)|(go_simp;rfl))
           intro gb818 hg w68 hbox hb
           have n0_:=a_ (Kd.R_below (rp_ HO765.out) hb)
           have n1_:=a_ (Kd.R_below (rp_ HO779.out) hb)
           have n2_:=a_ (Kd.R_below (rp_ HO786.out) hb)
           have n3_:=a_ (Kd.R_below (rp_ HO795.out) hb)
           have n4_:=a_ (Kd.R_below (rp_ HO802.out) hb)
           have n5_:=a_ (Kd.R_below (rp_ HO809.out) hb)
           have n6_:=a_ (Kd.R_below (rp_ HO814.out) hb)
           have n7_:=a_ (blk_below (g:=gb775) (o:=.cells #[.slice Ao22 t763.length co22,.int .i64 t766,.bool t767] 25 (0,0)) (bp_ BK775.out) hb)
           have n8_:=a_ (blk_below (g:=gb776) (o:=.cells #[.int .i64 t768,.int .i64 t769,.int .i64 t770,.int .i64 t771,.int .i64 t772,.int .i64 t773,.string t774] 44 (0,0)) (bp_ BK776.out) hb)
           have n9_:=a_ (blk_below (g:=gb783) (o:=.cells #[.slice Ao28 t777.length co28,.int .i64 t780,.bool t781] 25 (0,0)) (bp_ BK783.out) hb)
           have n10_:=a_ (blk_below (g:=gb790) (o:=.cells #[.slice Ao36 t784.length co36,.int .i64 t787,.bool t788] 25 (0,0)) (bp_ BK790.out) hb)
           have n11_:=a_ (blk_below (g:=gb799) (o:=.cells #[.slice Ao47 t793.length co47,.int .i64 t796,.bool t797] 25 (0,0)) (bp_ BK799.out) hb)
           have n12_:=a_ (blk_below (g:=gb806) (o:=.cells #[.slice Ao56 t800.length co56,.int .i64 t803,.bool t804] 25 (0,0)) (bp_ BK806.out) hb)
           have n13_:=a_ (bS_ (bel_) hb)
           have n14_:=a_ (hbox)
           have n15_:=a_ ((by rw [hg];exact (below_size (bel_)):w.heap.size≤gb818))
           have n16_:=a_ ((by rw [hg];exact (below_size (bel_)):w.heap.size≤gb818))
           have n17_:=a_ ((by rw [hg];exact Nat.ne_of_lt (blk_lt (g:=gb775) (o:=.cells #[.slice Ao22 t763.length co22,.int .i64 t766,.bool t767] 25 (0,0)) (bp_ BK775.out)):gb775≠gb818))
           have n18_:=a_ ((by rw [hg];exact Nat.ne_of_gt (blk_lt (g:=gb775) (o:=.cells #[.slice Ao22 t763.length co22,.int .i64 t766,.bool t767] 25 (0,0)) (bp_ BK775.out)):gb818≠gb775))
           have n19_:=a_ ((by rw [hg];exact Nat.ne_of_lt (blk_lt (g:=gb776) (o:=.cells #[.int .i64 t768,.int .i64 t769,.int .i64 t770,.int .i64 t771,.int .i64 t772,.int .i64 t773,.string t774] 44 (0,0)) (bp_ BK776.out)):gb776≠gb818))
           have n20_:=a_ ((by rw [hg];exact Nat.ne_of_gt (blk_lt (g:=gb776) (o:=.cells #[.int .i64 t768,.int .i64 t769,.int .i64 t770,.int .i64 t771,.int .i64 t772,.int .i64 t773,.string t774] 44 (0,0)) (bp_ BK776.out)):gb818≠gb776))
           have n21_:=a_ ((by rw [hg];exact Nat.ne_of_lt (blk_lt (g:=gb783) (o:=.cells #[.slice Ao28 t777.length co28,.int .i64 t780,.bool t781] 25 (0,0)) (bp_ BK783.out)):gb783≠gb818))
           have n22_:=a_ ((by rw [hg];exact Nat.ne_of_gt (blk_lt (g:=gb783) (o:=.cells #[.slice Ao28 t777.length co28,.int .i64 t780,.bool t781] 25 (0,0)) (bp_ BK783.out)):gb818≠gb783))
           have n23_:=a_ ((by rw [hg];exact Nat.ne_of_lt (blk_lt (g:=gb790) (o:=.cells #[.slice Ao36 t784.length co36,.int .i64 t787,.bool t788] 25 (0,0)) (bp_ BK790.out)):gb790≠gb818))
           have n24_:=a_ ((by rw [hg];exact Nat.ne_of_gt (blk_lt (g:=gb790) (o:=.cells #[.slice Ao36 t784.length co36,.int .i64 t787,.bool t788] 25 (0,0)) (bp_ BK790.out)):gb818≠gb790))
           have n25_:=a_ ((by rw [hg];exact Nat.ne_of_lt (blk_lt (g:=gb799) (o:=.cells #[.slice Ao47 t793.length co47,.int .i64 t796,.bool t797] 25 (0,0)) (bp_ BK799.out)):gb799≠gb818))
           have n26_:=a_ ((by rw [hg];exact Nat.ne_of_gt (blk_lt (g:=gb799) (o:=.cells #[.slice Ao47 t793.length co47,.int .i64 t796,.bool t797] 25 (0,0)) (bp_ BK799.out)):gb818≠gb799))
           have n27_:=a_ ((by rw [hg];exact Nat.ne_of_lt (blk_lt (g:=gb806) (o:=.cells #[.slice Ao56 t800.length co56,.int .i64 t803,.bool t804] 25 (0,0)) (bp_ BK806.out)):gb806≠gb818))
           have n28_:=a_ ((by rw [hg];exact Nat.ne_of_gt (blk_lt (g:=gb806) (o:=.cells #[.slice Ao56 t800.length co56,.int .i64 t803,.bool t804] 25 (0,0)) (bp_ BK806.out)):gb818≠gb806))
           clear HO765
           clear HO779
           clear HO786
           clear HO795
           clear HO802
           clear HO809
           clear HO814
           clear BK775
           clear BK776
           clear BK783
           clear BK790
           clear BK799
           clear BK806
           clear HB
           have HO765:=n0_
           have HO779:=n1_
           have HO786:=n2_
           have HO795:=n3_
           have HO802:=n4_
           have HO809:=n5_
           have HO814:=n6_
           have BK775:=n7_
           have BK776:=n8_
           have BK783:=n9_
           have BK790:=n10_
           have BK799:=n11_
           have BK806:=n12_
           have HB:=n13_
           have BK818:=n14_
           have GW818:=n15_
           have GE818:=n16_
           have NB775_818:=n17_
           have NB818_775:=n18_
           have NB776_818:=n19_
           have NB818_776:=n20_
           have NB783_818:=n21_
           have NB818_783:=n22_
           have NB790_818:=n23_
           have NB818_790:=n24_
           have NB799_818:=n25_
           have NB818_799:=n26_
           have NB806_818:=n27_
           have NB818_806:=n28_
           clear n0_ n1_ n2_ n3_ n4_ n5_ n6_ n7_ n8_ n9_ n10_ n11_ n12_ n13_ n14_ n15_ n16_ n17_ n18_ n19_ n20_ n21_ n22_ n23_ n24_ n25_ n26_ n27_ n28_
           clear hb hbox hg
           refine hK.out _ _ ⟨(bC_ BK806.out 0).trans rfl,(bC_ BK806.out 1).trans rfl,(bC_ BK806.out 2).trans rfl,(bC_ BK776.out 0).trans rfl,(bC_ BK776.out 1).trans rfl,(bC_ BK776.out 2).trans rfl,(bC_ BK776.out 3).trans rfl,(bC_ BK776.out 4).trans rfl,(bC_ BK776.out 5).trans rfl,(bC_ BK776.out 6).trans rfl⟩ (fun hHeld=>?_)
           clear hK K
           refine norm_ (a':=?_) ?_ ?_
           rotate_left
           ·show Act.put _ (some 13) _=_
            simp only [Act.put,List.setIfInBounds_toArray,List.set_cons_zero,List.set_cons_succ,i64_w,i32_w]
            rfl
           exact norm_ (by simp only [putAll,Act.put,List.setIfInBounds_toArray,List.set_cons_zero,List.set_cons_succ]) (hCont (.slice Ao66 t807.length co66,v813,gb818) _ ⟨hHeld,(by (with_reducible repeat (first|apply Kd.R_alloc|apply Kd.R_drewN|apply Kd.R_drew));exact Kd.R_mono HO765.out (fun _ hk=>⟨hk.1.1.1,⟨hk.1.1.2.1,⟨hk.1.1.2.2.1,⟨hk.1.1.2.2.2.1,⟨hk.1.2,⟨hk.2,hk.1.1.2.2.2.2⟩⟩⟩⟩⟩⟩)),(by (with_reducible repeat (first|apply Kd.R_alloc|apply Kd.R_drewN|apply Kd.R_drew));exact Kd.R_mono HO779.out (fun _ hk=>⟨hk.1.1.1,⟨hk.1.1.2.1,⟨hk.1.1.2.2.1,⟨hk.1.1.2.2.2.1,⟨hk.1.2,⟨hk.2,hk.1.1.2.2.2.2⟩⟩⟩⟩⟩⟩)),(by (with_reducible repeat (first|apply Kd.R_alloc|apply Kd.R_drewN|apply Kd.R_drew));exact Kd.R_mono HO786.out (fun _ hk=>⟨hk.1.1.1,⟨hk.1.1.2.1,⟨hk.1.1.2.2.1,⟨hk.1.1.2.2.2.1,⟨hk.1.2,⟨hk.2,hk.1.1.2.2.2.2⟩⟩⟩⟩⟩⟩)),(by (with_reducible repeat (first|apply Kd.R_alloc|apply Kd.R_drewN|apply Kd.R_drew));exact Kd.R_mono HO795.out (fun _ hk=>⟨hk.1.1.1,⟨hk.1.1.2.1,⟨hk.1.1.2.2.1,⟨hk.1.1.2.2.2.1,⟨hk.1.2,⟨hk.2,hk.1.1.2.2.2.2⟩⟩⟩⟩⟩⟩)),(by (with_reducible repeat (first|apply Kd.R_alloc|apply Kd.R_drewN|apply Kd.R_drew));exact Kd.R_mono HO802.out (fun _ hk=>⟨hk.1.1.1,⟨hk.1.1.2.1,⟨hk.1.1.2.2.1,⟨hk.1.1.2.2.2.1,⟨hk.1.2,⟨hk.2,hk.1.1.2.2.2.2⟩⟩⟩⟩⟩⟩)),(by (with_reducible repeat (first|apply Kd.R_alloc|apply Kd.R_drewN|apply Kd.R_drew));exact Kd.R_mono HO809.out (fun _ hk=>⟨hk.1.1.1.1.1.1.2,⟨hk.1.1.1.1.1.2,⟨hk.1.1.1.1.2,⟨hk.1.1.1.2,⟨hk.1.1.2,⟨hk.2,hk.1.2⟩⟩⟩⟩⟩⟩)),(by (with_reducible repeat (first|apply Kd.R_alloc|apply Kd.R_drewN|apply Kd.R_drew));exact Kd.R_mono HO814.out (fun _ hk=>⟨hk.1.1.1.1.1.1.2,⟨hk.1.1.1.1.1.2,⟨hk.1.1.1.1.2,⟨hk.1.1.1.2,⟨hk.1.1.2,⟨hk.1.2,hk.2⟩⟩⟩⟩⟩⟩)),(bp_ BK775.out),(bp_ BK776.out),(bp_ BK783.out),(bp_ BK790.out),(bp_ BK799.out),(bp_ BK806.out),(bp_ BK818.out),GW818.out,GE818.out,NB775_818.out,NB818_775.out,NB776_818.out,NB818_776.out,NB783_818.out,NB818_783.out,NB790_818.out,NB818_790.out,NB799_818.out,NB818_799.out,NB806_818.out,NB818_806.out,(bel_)⟩)
          ·skip
           refine box_step ?hg (N:=13) ?hd (cs:=#[.slice none 0 0,.int .i64 0,.bool false]) (t:=25) ?hr ?_;(case hd=>rfl);(case hg=>rfl);(case hr=>first|(go_simp;done)|(go_simp;rfl))
           intro gb818 hg w66 hbox hb
           have n0_:=a_ (Kd.R_below (rp_ HO765.out) hb)
           have n1_:=a_ (Kd.R_below (rp_ HO779.out) hb)
           have n2_:=a_ (Kd.R_below (rp_ HO786.out) hb)
           have n3_:=a_ (Kd.R_below (rp_ HO795.out) hb)
           have n4_:=a_ (Kd.R_below (rp_ HO802.out) hb)
           have n5_:=a_ (Kd.R_below (rp_ HO809.out) hb)
           have n6_:=a_ (blk_below (g:=gb775) (o:=.cells #[.slice Ao22 t763.length co22,.int .i64 t766,.bool t767] 25 (0,0)) (bp_ BK775.out) hb)
           have n7_:=a_ (blk_below (g:=gb776) (o:=.cells #[.int .i64 t768,.int .i64 t769,.int .i64 t770,.int .i64 t771,.int .i64 t772,.int .i64 t773,.string t774] 44 (0,0)) (bp_ BK776.out) hb)
           have n8_:=a_ (blk_below (g:=gb783) (o:=.cells #[.slice Ao28 t777.length co28,.int .i64 t780,.bool t781] 25 (0,0)) (bp_ BK783.out) hb)
           have n9_:=a_ (blk_below (g:=gb790) (o:=.cells #[.slice Ao36 t784.length co36,.int .i64 t787,.bool t788] 25 (0,0)) (bp_ BK790.out) hb)
           have n10_:=a_ (blk_below (g:=gb799) (o:=.cells #[.slice Ao47 t793.length co47,.int .i64 t796,.bool t797] 25 (0,0)) (bp_ BK799.out) hb)
           have n11_:=a_ (blk_below (g:=gb806) (o:=.cells #[.slice Ao56 t800.length co56,.int .i64 t803,.bool t804] 25 (0,0)) (bp_ BK806.out) hb)
           have n12_:=a_ (bS_ (bel_) hb)
           have n13_:=a_ (hbox)
           have n14_:=a_ ((by rw [hg];exact (below_size (bel_)):w.heap.size≤gb818))
           have n15_:=a_ ((by rw [hg];exact (below_size (bel_)):w.heap.size≤gb818))
           have n16_:=a_ ((by rw [hg];exact Nat.ne_of_lt (blk_lt (g:=gb775) (o:=.cells #[.slice Ao22 t763.length co22,.int .i64 t766,.bool t767] 25 (0,0)) (bp_ BK775.out)):gb775≠gb818))
           have n17_:=a_ ((by rw [hg];exact Nat.ne_of_gt (blk_lt (g:=gb775) (o:=.cells #[.slice Ao22 t763.length co22,.int .i64 t766,.bool t767] 25 (0,0)) (bp_ BK775.out)):gb818≠gb775))
           have n18_:=a_ ((by rw [hg];exact Nat.ne_of_lt (blk_lt (g:=gb776) (o:=.cells #[.int .i64 t768,.int .i64 t769,.int .i64 t770,.int .i64 t771,.int .i64 t772,.int .i64 t773,.string t774] 44 (0,0)) (bp_ BK776.out)):gb776≠gb818))
           have n19_:=a_ ((by rw [hg];exact Nat.ne_of_gt (blk_lt (g:=gb776) (o:=.cells #[.int .i64 t768,.int .i64 t769,.int .i64 t770,.int .i64 t771,.int .i64 t772,.int .i64 t773,.string t774] 44 (0,0)) (bp_ BK776.out)):gb818≠gb776))
           have n20_:=a_ ((by rw [hg];exact Nat.ne_of_lt (blk_lt (g:=gb783) (o:=.cells #[.slice Ao28 t777.length co28,.int .i64 t780,.bool t781] 25 (0,0)) (bp_ BK783.out)):gb783≠gb818))
           have n21_:=a_ ((by rw [hg];exact Nat.ne_of_gt (blk_lt (g:=gb783) (o:=.cells #[.slice Ao28 t777.length co28,.int .i64 t780,.bool t781] 25 (0,0)) (bp_ BK783.out)):gb818≠gb783))
           have n22_:=a_ ((by rw [hg];exact Nat.ne_of_lt (blk_lt (g:=gb790) (o:=.cells #[.slice Ao36 t784.length co36,.int .i64 t787,.bool t788] 25 (0,0)) (bp_ BK790.out)):gb790≠gb818))
           have n23_:=a_ ((by rw [hg];exact Nat.ne_of_gt (blk_lt (g:=gb790) (o:=.cells #[.slice Ao36 t784.length co36,.int .i64 t787,.bool t788] 25 (0,0)) (bp_ BK790.out)):gb818≠gb790))
           have n24_:=a_ ((by rw [hg];exact Nat.ne_of_lt (blk_lt (g:=gb799) (o:=.cells #[.slice Ao47 t793.length co47,.int .i64 t796,.bool t797] 25 (0,0)) (bp_ BK799.out)):gb799≠gb818))
           have n25_:=a_ ((by rw [hg];exact Nat.ne_of_gt (blk_lt (g:=gb799) (o:=.cells #[.slice Ao47 t793.length co47,.int .i64 t796,.bool t797] 25 (0,0)) (bp_ BK799.out)):gb818≠gb799))
           have n26_:=a_ ((by rw [hg];exact Nat.ne_of_lt (blk_lt (g:=gb806) (o:=.cells #[.slice Ao56 t800.length co56,.int .i64 t803,.bool t804] 25 (0,0)) (bp_ BK806.out)):gb806≠gb818))
           have n27_:=a_ ((by rw [hg];exact Nat.ne_of_gt (blk_lt (g:=gb806) (o:=.cells #[.slice Ao56 t800.length co56,.int .i64 t803,.bool t804] 25 (0,0)) (bp_ BK806.out)):gb818≠gb806))
           clear HO765
           clear HO779
           clear HO786
           clear HO795
           clear HO802
           clear HO809
           clear BK775
           clear BK776
           clear BK783
           clear BK790
           clear BK799
           clear BK806
           clear HB
           have HO765:=n0_
           have HO779:=n1_
           have HO786:=n2_
           have HO795:=n3_
           have HO802:=n4_
           have HO809:=n5_
           have BK775:=n6_
           have BK776:=n7_
           have BK783:=n8_
           have BK790:=n9_
           have BK799:=n10_
           have BK806:=n11_
           have HB:=n12_
           have BK818:=n13_
           have GW818:=n14_
           have GE818:=n15_
           have NB775_818:=n16_
           have NB818_775:=n17_
           have NB776_818:=n18_
           have NB818_776:=n19_
           have NB783_818:=n20_
           have NB818_783:=n21_
           have NB790_818:=n22_
           have NB818_790:=n23_
           have NB799_818:=n24_
           have NB818_799:=n25_
           have NB806_818:=n26_
           have NB818_806:=n27_
           clear n0_ n1_ n2_ n3_ n4_ n5_ n6_ n7_ n8_ n9_ n10_ n11_ n12_ n13_ n14_ n15_ n16_ n17_ n18_ n19_ n20_ n21_ n22_ n23_ n24_ n25_ n26_ n27_
           clear hb hbox hg
           obtain ⟨Ao67,co67,eo67⟩:=Kd.R_slice HO809.out
           (first|subst eo67|(injection eo67 with f1_ f2_ f3_;have f4_:=f1_.symm;have f5_:=f3_.symm;clear f1_ f2_ f3_;subst f4_;subst f5_))
           refine hK.out _ _ ⟨(bC_ BK806.out 0).trans rfl,(bC_ BK806.out 1).trans rfl,(bC_ BK806.out 2).trans rfl,(bC_ BK776.out 0).trans rfl,(bC_ BK776.out 1).trans rfl,(bC_ BK776.out 2).trans rfl,(bC_ BK776.out 3).trans rfl,(bC_ BK776.out 4).trans rfl,(bC_ BK776.out 5).trans rfl,(bC_ BK776.out 6).trans rfl⟩ (fun hHeld=>?_)
           clear hK K
           refine norm_ (a':=?_) ?_ ?_
           rotate_left
           ·show Act.put _ (some 13) _=_
            simp only [Act.put,List.setIfInBounds_toArray,List.set_cons_zero,List.set_cons_succ,i64_w,i32_w]
            rfl
           refine one_ (i:=3) (N:=some 71) #[true,true,true,true,false,false,false,true,false,false] rfl rfl (one_of HT_.out (by kernel_rfl)) (by decide) (fun K hK=>?_)
           refine goes_ Tryd.func24 (by kernel_rfl) rfl #[.agg #[.slice Ao67 t807.length co67,.int .i64 t810,.bool t811],.agg #[.int .i64 t768,.int .i64 t769,.int .i64 t770,.int .i64 t771,.int .i64 t772,.int .i64 t773,.string t774]] (by rfl) rfl rfl ar_ ?_
           with_reducible refine (impl_ServerHear.calls k _ _ t807 t810 t811 t768 t769 t770 t771 t772 t773 t774 t812 t815 t816 false _ ?side1 ?side2 A13.out ?side3).mono ?_
           (case side1=>exact cx_ (Kd.R_reads' HO809.out).2.2)
           (case side2=>exact (Kd.R_reads' HO809.out).2.1)
           (case side3=>exact Glob.below HG.out (bel_))
           rintro e w68 ⟨v813,rfl,ho0,hb⟩
           refine ⟨_,rfl,?_⟩
           have n0_:=a_ (Kd.R_elder' (rp_ HO765.out) (Kd.R_base ho0) hb)
           have n1_:=a_ (Kd.R_elder' (rp_ HO779.out) (Kd.R_base ho0) hb)
           have n2_:=a_ (Kd.R_elder' (rp_ HO786.out) (Kd.R_base ho0) hb)
           have n3_:=a_ (Kd.R_elder' (rp_ HO795.out) (Kd.R_base ho0) hb)
           have n4_:=a_ (Kd.R_elder' (rp_ HO802.out) (Kd.R_base ho0) hb)
           have n5_:=a_ (Kd.R_elder' (rp_ HO809.out) (Kd.R_base ho0) hb)
           have n6_:=a_ (Kd.R_lower (Kd.R_newB (Kd.R_new' (Kd.R_new' (Kd.R_new' (Kd.R_new' (Kd.R_new' (Kd.R_new' ho0 (Kd.R_lt (rp_ HO765.out))) (Kd.R_lt (rp_ HO779.out))) (Kd.R_lt (rp_ HO786.out))) (Kd.R_lt (rp_ HO795.out))) (Kd.R_lt (rp_ HO802.out))) (Kd.R_lt (rp_ HO809.out))) (g:=gb776) (o:=.cells #[.int .i64 t768,.int .i64 t769,.int .i64 t770,.int .i64 t771,.int .i64 t772,.int .i64 t773,.string t774] 44 (0,0)) (bp_ BK776.out)) (below_size (bel_)))
           have n7_:=a_ (blk_below (g:=gb775) (o:=.cells #[.slice Ao22 t763.length co22,.int .i64 t766,.bool t767] 25 (0,0)) (bp_ BK775.out) hb)
           have n8_:=a_ (blk_below (g:=gb776) (o:=.cells #[.int .i64 t768,.int .i64 t769,.int .i64 t770,.int .i64 t771,.int .i64 t772,.int .i64 t773,.string t774] 44 (0,0)) (bp_ BK776.out) hb)
           have n9_:=a_ (blk_below (g:=gb783) (o:=.cells #[.slice Ao28 t777.length co28,.int .i64 t780,.bool t781] 25 (0,0)) (bp_ BK783.out) hb)
           have n10_:=a_ (blk_below (g:=gb790) (o:=.cells #[.slice Ao36 t784.length co36,.int .i64 t787,.bool t788] 25 (0,0)) (bp_ BK790.out) hb)
           have n11_:=a_ (blk_below (g:=gb799) (o:=.cells #[.slice Ao47 t793.length co47,.int .i64 t796,.bool t797] 25 (0,0)) (bp_ BK799.out) hb)
           have n12_:=a_ (blk_below (g:=gb806) (o:=.cells #[.slice Ao56 t800.length co56,.int .i64 t803,.bool t804] 25 (0,0)) (bp_ BK806.out) hb)
           have n13_:=a_ (blk_below (g:=gb818) (o:=.cells #[.slice none 0 0,.int .i64 0,.bool false] 25 (0,0)) (bp_ BK818.out) hb)
           have n14_:=a_ (bS_ (bel_) hb)
           clear HO765
           clear HO779
           clear HO786
           clear HO795
           clear HO802
           clear HO809
           clear BK775
           clear BK776
           clear BK783
           clear BK790
           clear BK799
           clear BK806
           clear BK818
           clear HB
           have HO765:=n0_
           have HO779:=n1_
           have HO786:=n2_
           have HO795:=n3_
           have HO802:=n4_
           have HO809:=n5_
           have HO814:=n6_
           have BK775:=n7_
           have BK776:=n8_
           have BK783:=n9_
           have BK790:=n10_
           have BK799:=n11_
           have BK806:=n12_
           have BK818:=n13_
           have HB:=n14_
           clear n0_ n1_ n2_ n3_ n4_ n5_ n6_ n7_ n8_ n9_ n10_ n11_ n12_ n13_ n14_
           (try clear hb)
           (try clear hb2)
           (try clear hk)
           (try clear hi)
           (try clear ho0)
           refine hK.out _ _ ⟨(bC_ BK806.out 0).trans rfl,(bC_ BK806.out 1).trans rfl,(bC_ BK806.out 2).trans rfl,(bC_ BK776.out 0).trans rfl,(bC_ BK776.out 1).trans rfl,(bC_ BK776.out 2).trans rfl,(bC_ BK776.out 3).trans rfl,(bC_ BK776.out 4).trans rfl,(bC_ BK776.out 5).trans rfl,(bC_ BK776.out 6).trans rfl⟩ (fun hHeld=>?_)
           clear hK K
           refine norm_ (a':=?_) ?_ ?_
           rotate_left
           ·show Act.put _ (some 71) _=_
            simp only [Act.put,List.setIfInBounds_toArray,List.set_cons_zero,List.set_cons_succ,i64_w,i32_w]
            rfl
           refine pure_ (i:=4) (N:=some 67) (v:=?_) (a':=?_) #[true,true,true,true,true,false,false,true,false,false] rfl rfl (any_of HT_.out (by kernel_rfl)) (fun _ _ _ h=>h) (Or.inl ⟨by rfl,?_⟩) ?_ ?_
           rotate_left
           ·intro w'
            go_simp
            with_reducible rfl
           rotate_left
           ·simp only [Act.put,List.setIfInBounds_toArray,List.set_cons_zero,List.set_cons_succ,i64_w,i32_w]
            rfl
           refine pure_ (i:=5) (N:=some 72) (v:=?_) (a':=?_) #[true,true,true,true,true,true,false,true,false,false] rfl rfl (any_of HT_.out (by kernel_rfl)) (fun _ _ _ h=>h) (Or.inl ⟨by rfl,?_⟩) ?_ ?_
           rotate_left
           ·intro w'
            go_simp
            with_reducible rfl
           rotate_left
           ·simp only [Act.put,List.setIfInBounds_toArray,List.set_cons_zero,List.set_cons_succ,i64_w,i32_w]
            rfl
           refine pure_ (i:=6) (N:=some 73) (v:=?_) (a':=?_) #[true,true,true,true,true,true,true,true,false,false] rfl rfl (any_of HT_.out (by kernel_rfl)) (fun _ _ _ h=>h) (Or.inl ⟨by rfl,?_⟩) ?_ ?_
           rotate_left
           ·intro w'
            go_simp
            with_reducible rfl
           rotate_left
           ·simp only [Act.put,List.setIfInBounds_toArray,List.set_cons_zero,List.set_cons_succ,i64_w,i32_w]
            rfl
           exact norm_ (by simp only [putAll,Act.put,List.setIfInBounds_toArray,List.set_cons_zero,List.set_cons_succ]) (hCont (.slice Ao67 t807.length co67,v813,gb818) _ ⟨hHeld,(by (with_reducible repeat (first|apply Kd.R_alloc|apply Kd.R_drewN|apply Kd.R_drew));exact Kd.R_mono HO765.out (fun _ hk=>⟨hk.1.1.1,⟨hk.1.1.2.1,⟨hk.1.1.2.2.1,⟨hk.1.1.2.2.2.1,⟨hk.1.2,⟨hk.2,hk.1.1.2.2.2.2⟩⟩⟩⟩⟩⟩)),(by (with_reducible repeat (first|apply Kd.R_alloc|apply Kd.R_drewN|apply Kd.R_drew));exact Kd.R_mono HO779.out (fun _ hk=>⟨hk.1.1.1,⟨hk.1.1.2.1,⟨hk.1.1.2.2.1,⟨hk.1.1.2.2.2.1,⟨hk.1.2,⟨hk.2,hk.1.1.2.2.2.2⟩⟩⟩⟩⟩⟩)),(by (with_reducible repeat (first|apply Kd.R_alloc|apply Kd.R_drewN|apply Kd.R_drew));exact Kd.R_mono HO786.out (fun _ hk=>⟨hk.1.1.1,⟨hk.1.1.2.1,⟨hk.1.1.2.2.1,⟨hk.1.1.2.2.2.1,⟨hk.1.2,⟨hk.2,hk.1.1.2.2.2.2⟩⟩⟩⟩⟩⟩)),(by (with_reducible repeat (first|apply Kd.R_alloc|apply Kd.R_drewN|apply Kd.R_drew));exact Kd.R_mono HO795.out (fun _ hk=>⟨hk.1.1.1,⟨hk.1.1.2.1,⟨hk.1.1.2.2.1,⟨hk.1.1.2.2.2.1,⟨hk.1.2,⟨hk.2,hk.1.1.2.2.2.2⟩⟩⟩⟩⟩⟩)),(by (with_reducible repeat (first|apply Kd.R_alloc|apply Kd.R_drewN|apply Kd.R_drew));exact Kd.R_mono HO802.out (fun _ hk=>⟨hk.1.1.1,⟨hk.1.1.2.1,⟨hk.1.1.2.2.1,⟨hk.1.1.2.2.2.1,⟨hk.1.2,⟨hk.2,hk.1.1.2.2.2.2⟩⟩⟩⟩⟩⟩)),(by (with_reducible repeat (first|apply Kd.R_alloc|apply Kd.R_drewN|apply Kd.R_drew));exact Kd.R_mono HO809.out (fun _ hk=>⟨hk.1.1.1.1.1.1.2,⟨hk.1.1.1.1.1.2,⟨hk.1.1.1.1.2,⟨hk.1.1.1.2,⟨hk.1.1.2,⟨hk.2,hk.1.2⟩⟩⟩⟩⟩⟩)),(by (with_reducible repeat (first|apply Kd.R_alloc|apply Kd.R_drewN|apply Kd.R_drew));exact Kd.R_mono HO814.out (fun _ hk=>⟨hk.1.1.1.1.1.1.2,⟨hk.1.1.1.1.1.2,⟨hk.1.1.1.1.2,⟨hk.1.1.1.2,⟨hk.1.1.2,⟨hk.1.2,hk.2⟩⟩⟩⟩⟩⟩)),(bp_ BK775.out),(bp_ BK776.out),(bp_ BK783.out),(bp_ BK790.out),(bp_ BK799.out),(bp_ BK806.out),(bp_ BK818.out),GW818.out,GE818.out,NB775_818.out,NB818_775.out,NB776_818.out,NB818_776.out,NB783_818.out,NB818_783.out,NB790_818.out,NB818_790.out,NB799_818.out,NB818_799.out,NB806_818.out,NB818_806.out,(bel_)⟩)
         ·skip
          refine box_step ?hg (N:=13) ?hd (cs:=#[.slice none 0 0,.int .i64 0,.bool false]) (t:=25) ?hr ?_;(case hd=>rfl);(case hg=>rfl);(case hr=>first|(go_simp;done)|(go_simp;rfl))
          intro gb818 hg w65 hbox hb
          have n0_:=a_ (Kd.R_below (rp_ HO765.out) hb)
          have n1_:=a_ (Kd.R_below (rp_ HO779.out) hb)
          have n2_:=a_ (Kd.R_below (rp_ HO786.out) hb)
          have n3_:=a_ (Kd.R_below (rp_ HO795.out) hb)
          have n4_:=a_ (Kd.R_below (rp_ HO802.out) hb)
          have n5_:=a_ (blk_below (g:=gb775) (o:=.cells #[.slice Ao22 t763.length co22,.int .i64 t766,.bool t767] 25 (0,0)) (bp_ BK775.out) hb)
          have n6_:=a_ (blk_below (g:=gb776) (o:=.cells #[.int .i64 t768,.int .i64 t769,.int .i64 t770,.int .i64 t771,.int .i64 t772,.int .i64 t773,.string t774] 44 (0,0)) (bp_ BK776.out) hb)
          have n7_:=a_ (blk_below (g:=gb783) (o:=.cells #[.slice Ao28 t777.length co28,.int .i64 t780,.bool t781] 25 (0,0)) (bp_ BK783.out) hb)
          have n8_:=a_ (blk_below (g:=gb790) (o:=.cells #[.slice Ao36 t784.length co36,.int .i64 t787,.bool t788] 25 (0,0)) (bp_ BK790.out) hb)
          have n9_:=a_ (blk_below (g:=gb799) (o:=.cells #[.slice Ao47 t793.length co47,.int .i64 t796,.bool t797] 25 (0,0)) (bp_ BK799.out) hb)
          have n10_:=a_ (blk_below (g:=gb806) (o:=.cells #[.slice Ao56 t800.length co56,.int .i64 t803,.bool t804] 25 (0,0)) (bp_ BK806.out) hb)
          have n11_:=a_ (bS_ (bel_) hb)
          have n12_:=a_ (hbox)
          have n13_:=a_ ((by rw [hg];exact (below_size (bel_)):w.heap.size≤gb818))
          have n14_:=a_ ((by rw [hg];exact (below_size (bel_)):w.heap.size≤gb818))
          have n15_:=a_ ((by rw [hg];exact Nat.ne_of_lt (blk_lt (g:=gb775) (o:=.cells #[.slice Ao22 t763.length co22,.int .i64 t766,.bool t767] 25 (0,0)) (bp_ BK775.out)):gb775≠gb818))
          have n16_:=a_ ((by rw [hg];exact Nat.ne_of_gt (blk_lt (g:=gb775) (o:=.cells #[.slice Ao22 t763.length co22,.int .i64 t766,.bool t767] 25 (0,0)) (bp_ BK775.out)):gb818≠gb775))
          have n17_:=a_ ((by rw [hg];exact Nat.ne_of_lt (blk_lt (g:=gb776) (o:=.cells #[.int .i64 t768,.int .i64 t769,.int .i64 t770,.int .i64 t771,.int .i64 t772,.int .i64 t773,.string t774] 44 (0,0)) (bp_ BK776.out)):gb776≠gb818))
          have n18_:=a_ ((by rw [hg];exact Nat.ne_of_gt (blk_lt (g:=gb776) (o:=.cells #[.int .i64 t768,.int .i64 t769,.int .i64 t770,.int .i64 t771,.int .i64 t772,.int .i64 t773,.string t774] 44 (0,0)) (bp_ BK776.out)):gb818≠gb776))
          have n19_:=a_ ((by rw [hg];exact Nat.ne_of_lt (blk_lt (g:=gb783) (o:=.cells #[.slice Ao28 t777.length co28,.int .i64 t780,.bool t781] 25 (0,0)) (bp_ BK783.out)):gb783≠gb818))
          have n20_:=a_ ((by rw [hg];exact Nat.ne_of_gt (blk_lt (g:=gb783) (o:=.cells #[.slice Ao28 t777.length co28,.int .i64 t780,.bool t781] 25 (0,0)) (bp_ BK783.out)):gb818≠gb783))
          have n21_:=a_ ((by rw [hg];exact Nat.ne_of_lt (blk_lt (g:=gb790) (o:=.cells #[.slice Ao36 t784.length co36,.int .i64 t787,.bool t788] 25 (0,0)) (bp_ BK790.out)):gb790≠gb818))
          have n22_:=a_ ((by rw [hg];exact Nat.ne_of_gt (blk_lt (g:=gb790) (o:=.cells #[.slice Ao36 t784.length co36,.int .i64 t787,.bool t788] 25 (0,0)) (bp_ BK790.out)):gb818≠gb790))
          have n23_:=a_ ((by rw [hg];exact Nat.ne_of_lt (blk_lt (g:=gb799) (o:=.cells #[.slice Ao47 t793.length co47,.int .i64 t796,.bool t797] 25 (0,0)) (bp_ BK799.out)):gb799≠gb818))
          have n24_:=a_ ((by rw [hg];exact Nat.ne_of_gt (blk_lt (g:=gb799) (o:=.cells #[.slice Ao47 t793.length co47,.int .i64 t796,.bool t797] 25 (0,0)) (bp_ BK799.out)):gb818≠gb799))
          have n25_:=a_ ((by rw [hg];exact Nat.ne_of_lt (blk_lt (g:=gb806) (o:=.cells #[.slice Ao56 t800.length co56,.int .i64 t803,.bool t804] 25 (0,0)) (bp_ BK806.out)):gb806≠gb818))
          have n26_:=a_ ((by rw [hg];exact Nat.ne_of_gt (blk_lt (g:=gb806) (o:=.cells #[.slice Ao56 t800.length co56,.int .i64 t803,.bool t804] 25 (0,0)) (bp_ BK806.out)):gb818≠gb806))
          clear HO765
          clear HO779
          clear HO786
          clear HO795
          clear HO802
          clear BK775
          clear BK776
          clear BK783
          clear BK790
          clear BK799
          clear BK806
          clear HB
          have HO765:=n0_
          have HO779:=n1_
          have HO786:=n2_
          have HO795:=n3_
          have HO802:=n4_
          have BK775:=n5_
          have BK776:=n6_
          have BK783:=n7_
          have BK790:=n8_
          have BK799:=n9_
          have BK806:=n10_
          have HB:=n11_
          have BK818:=n12_
          have GW818:=n13_
          have GE818:=n14_
          have NB775_818:=n15_
          have NB818_775:=n16_
          have NB776_818:=n17_
          have NB818_776:=n18_
          have NB783_818:=n19_
          have NB818_783:=n20_
          have NB790_818:=n21_
          have NB818_790:=n22_
          have NB799_818:=n23_
          have NB818_799:=n24_
          have NB806_818:=n25_
          have NB818_806:=n26_
          clear n0_ n1_ n2_ n3_ n4_ n5_ n6_ n7_ n8_ n9_ n10_ n11_ n12_ n13_ n14_ n15_ n16_ n17_ n18_ n19_ n20_ n21_ n22_ n23_ n24_ n25_ n26_
          clear hb hbox hg
          refine hK.out _ _ ⟨(bC_ BK806.out 0).trans rfl,(bC_ BK806.out 1).trans rfl,(bC_ BK806.out 2).trans rfl,(bC_ BK776.out 0).trans rfl,(bC_ BK776.out 1).trans rfl,(bC_ BK776.out 2).trans rfl,(bC_ BK776.out 3).trans rfl,(bC_ BK776.out 4).trans rfl,(bC_ BK776.out 5).trans rfl,(bC_ BK776.out 6).trans rfl⟩ (fun hHeld=>?_)
          clear hK K
          refine norm_ (a':=?_) ?_ ?_
          rotate_left
          ·show Act.put _ (some 13) _=_
           simp only [Act.put,List.setIfInBounds_toArray,List.set_cons_zero,List.set_cons_succ,i64_w,i32_w]
           rfl
          refine one_ (i:=1) (N:=some 69) #[true,true,true,false,false,false,false,true,false,false] rfl rfl (one_of HT_.out (by kernel_rfl)) (by decide) (fun K hK=>?_)
          refine goes_ Tryd.func35 (by kernel_rfl) rfl #[.agg #[.slice Ao56 t800.length co56,.int .i64 t803,.bool t804],.int .i64 0] (by rfl) rfl rfl ar_ ?_
          with_reducible refine (impl_ServerFall.calls k _ _ t800 t803 t804 0 t807 t810 t811 _ ?side1 ?side2 A12.out ?side3).mono ?_
          (case side1=>exact cx_ (Kd.R_reads' HO802.out).2.2)
          (case side2=>exact (Kd.R_reads' HO802.out).2.1)
          (case side3=>exact Glob.below HG.out (bel_))
          rintro e w66 ⟨v808,rfl,ho0,hb⟩
          refine ⟨_,rfl,?_⟩
          have n0_:=a_ (Kd.R_elder' (rp_ HO765.out) (Kd.R_base ho0) hb)
          have n1_:=a_ (Kd.R_elder' (rp_ HO779.out) (Kd.R_base ho0) hb)
          have n2_:=a_ (Kd.R_elder' (rp_ HO786.out) (Kd.R_base ho0) hb)
          have n3_:=a_ (Kd.R_elder' (rp_ HO795.out) (Kd.R_base ho0) hb)
          have n4_:=a_ (Kd.R_elder' (rp_ HO802.out) (Kd.R_base ho0) hb)
          have n5_:=a_ (Kd.R_lower (Kd.R_newB (Kd.R_new' (Kd.R_new' (Kd.R_new' (Kd.R_new' (Kd.R_new' ho0 (Kd.R_lt (rp_ HO765.out))) (Kd.R_lt (rp_ HO779.out))) (Kd.R_lt (rp_ HO786.out))) (Kd.R_lt (rp_ HO795.out))) (Kd.R_lt (rp_ HO802.out))) (g:=gb776) (o:=.cells #[.int .i64 t768,.int .i64 t769,.int .i64 t770,.int .i64 t771,.int .i64 t772,.int .i64 t773,.string t774] 44 (0,0)) (bp_ BK776.out)) (below_size (bel_)))
          have n6_:=a_ (blk_below (g:=gb775) (o:=.cells #[.slice Ao22 t763.length co22,.int .i64 t766,.bool t767] 25 (0,0)) (bp_ BK775.out) hb)
          have n7_:=a_ (blk_below (g:=gb776) (o:=.cells #[.int .i64 t768,.int .i64 t769,.int .i64 t770,.int .i64 t771,.int .i64 t772,.int .i64 t773,.string t774] 44 (0,0)) (bp_ BK776.out) hb)
          have n8_:=a_ (blk_below (g:=gb783) (o:=.cells #[.slice Ao28 t777.length co28,.int .i64 t780,.bool t781] 25 (0,0)) (bp_ BK783.out) hb)
          have n9_:=a_ (blk_below (g:=gb790) (o:=.cells #[.slice Ao36 t784.length co36,.int .i64 t787,.bool t788] 25 (0,0)) (bp_ BK790.out) hb)
          have n10_:=a_ (blk_below (g:=gb799) (o:=.cells #[.slice Ao47 t793.length co47,.int .i64 t796,.bool t797] 25 (0,0)) (bp_ BK799.out) hb)
          have n11_:=a_ (blk_below (g:=gb806) (o:=.cells #[.slice Ao56 t800.length co56,.int .i64 t803,.bool t804] 25 (0,0)) (bp_ BK806.out) hb)
          have n12_:=a_ (blk_below (g:=gb818) (o:=.cells #[.slice none 0 0,.int .i64 0,.bool false] 25 (0,0)) (bp_ BK818.out) hb)
          have n13_:=a_ (bS_ (bel_) hb)
          clear HO765
          clear HO779
          clear HO786
          clear HO795
          clear HO802
          clear BK775
          clear BK776
          clear BK783
          clear BK790
          clear BK799
          clear BK806
          clear BK818
          clear HB
          have HO765:=n0_
          have HO779:=n1_
          have HO786:=n2_
          have HO795:=n3_
          have HO802:=n4_
          have HO809:=n5_
          have BK775:=n6_
          have BK776:=n7_
          have BK783:=n8_
          have BK790:=n9_
          have BK799:=n10_
          have BK806:=n11_
          have BK818:=n12_
          have HB:=n13_
          clear n0_ n1_ n2_ n3_ n4_ n5_ n6_ n7_ n8_ n9_ n10_ n11_ n12_ n13_
          (try clear hb)
          (try clear hb2)
          (try clear hk)
          (try clear hi)
          (try clear ho0)
          obtain ⟨Ao67,co67,eo67⟩:=Kd.R_slice HO809.out
          (first|subst eo67|(injection eo67 with f1_ f2_ f3_;have f4_:=f1_.symm;have f5_:=f3_.symm;clear f1_ f2_ f3_;subst f4_;subst f5_))
          refine hK.out _ _ ⟨(bC_ BK806.out 0).trans rfl,(bC_ BK806.out 1).trans rfl,(bC_ BK806.out 2).trans rfl,(bC_ BK776.out 0).trans rfl,(bC_ BK776.out 1).trans rfl,(bC_ BK776.out 2).trans rfl,(bC_ BK776.out 3).trans rfl,(bC_ BK776.out 4).trans rfl,(bC_ BK776.out 5).trans rfl,(bC_ BK776.out 6).trans rfl⟩ (fun hHeld=>?_)
          clear hK K
          refine norm_ (a':=?_) ?_ ?_
          rotate_left
          ·show Act.put _ (some 69) _=_
           simp only [Act.put,List.setIfInBounds_toArray,List.set_cons_zero,List.set_cons_succ,i64_w,i32_w]
           rfl
          refine one_ (i:=3) (N:=some 71) #[true,true,true,true,false,false,false,true,false,false] rfl rfl (one_of HT_.out (by kernel_rfl)) (by decide) (fun K hK=>?_)
          refine goes_ Tryd.func24 (by kernel_rfl) rfl #[.agg #[.slice Ao67 t807.length co67,.int .i64 t810,.bool t811],.agg #[.int .i64 t768,.int .i64 t769,.int .i64 t770,.int .i64 t771,.int .i64 t772,.int .i64 t773,.string t774]] (by rfl) rfl rfl ar_ ?_
          with_reducible refine (impl_ServerHear.calls k _ _ t807 t810 t811 t768 t769 t770 t771 t772 t773 t774 t812 t815 t816 false _ ?side1 ?side2 A13.out ?side3).mono ?_
          (case side1=>exact cx_ (Kd.R_reads' HO809.out).2.2)
          (case side2=>exact (Kd.R_reads' HO809.out).2.1)
          (case side3=>exact Glob.below HG.out (bel_))
          rintro e w68 ⟨v813,rfl,ho0,hb⟩
          refine ⟨_,rfl,?_⟩
          have n0_:=a_ (Kd.R_elder' (rp_ HO765.out) (Kd.R_base ho0) hb)
          have n1_:=a_ (Kd.R_elder' (rp_ HO779.out) (Kd.R_base ho0) hb)
          have n2_:=a_ (Kd.R_elder' (rp_ HO786.out) (Kd.R_base ho0) hb)
          have n3_:=a_ (Kd.R_elder' (rp_ HO795.out) (Kd.R_base ho0) hb)
          have n4_:=a_ (Kd.R_elder' (rp_ HO802.out) (Kd.R_base ho0) hb)
          have n5_:=a_ (Kd.R_elder' (rp_ HO809.out) (Kd.R_base ho0) hb)
          have n6_:=a_ (Kd.R_lower (Kd.R_newB (Kd.R_new' (Kd.R_new' (Kd.R_new' (Kd.R_new' (Kd.R_new' (Kd.R_new' ho0 (Kd.R_lt (rp_ HO765.out))) (Kd.R_lt (rp_ HO779.out))) (Kd.R_lt (rp_ HO786.out))) (Kd.R_lt (rp_ HO795.out))) (Kd.R_lt (rp_ HO802.out))) (Kd.R_lt (rp_ HO809.out))) (g:=gb776) (o:=.cells #[.int .i64 t768,.int .i64 t769,.int .i64 t770,.int .i64 t771,.int .i64 t772,.int .i64 t773,.string t774] 44 (0,0)) (bp_ BK776.out)) (below_size (bel_)))
          have n7_:=a_ (blk_below (g:=gb775) (o:=.cells #[.slice Ao22 t763.length co22,.int .i64 t766,.bool t767] 25 (0,0)) (bp_ BK775.out) hb)
          have n8_:=a_ (blk_below (g:=gb776) (o:=.cells #[.int .i64 t768,.int .i64 t769,.int .i64 t770,.int .i64 t771,.int .i64 t772,.int .i64 t773,.string t774] 44 (0,0)) (bp_ BK776.out) hb)
          have n9_:=a_ (blk_below (g:=gb783) (o:=.cells #[.slice Ao28 t777.length co28,.int .i64 t780,.bool t781] 25 (0,0)) (bp_ BK783.out) hb)
          have n10_:=a_ (blk_below (g:=gb790) (o:=.cells #[.slice Ao36 t784.length co36,.int .i64 t787,.bool t788] 25 (0,0)) (bp_ BK790.out) hb)
          have n11_:=a_ (blk_below (g:=gb799) (o:=.cells #[.slice Ao47 t793.length co47,.int .i64 t796,.bool t797] 25 (0,0)) (bp_ BK799.out) hb)
          have n12_:=a_ (blk_below (g:=gb806) (o:=.cells #[.slice Ao56 t800.length co56,.int .i64 t803,.bool t804] 25 (0,0)) (bp_ BK806.out) hb)
          have n13_:=a_ (blk_below (g:=gb818) (o:=.cells #[.slice none 0 0,.int .i64 0,.bool false] 25 (0,0)) (bp_ BK818.out) hb)
          have n14_:=a_ (bS_ (bel_) hb)
          clear HO765
          clear HO779
          clear HO786
          clear HO795
          clear HO802
          clear HO809
          clear BK775
          clear BK776
          clear BK783
          clear BK790
          clear BK799
          clear BK806
          clear BK818
          clear HB
          have HO765:=n0_
          have HO779:=n1_
          have HO786:=n2_
          have HO795:=n3_
          have HO802:=n4_
          have HO809:=n5_
          have HO814:=n6_
          have BK775:=n7_
          have BK776:=n8_
          have BK783:=n9_
          have BK790:=n10_
          have BK799:=n11_
          have BK806:=n12_
          have BK818:=n13_
          have HB:=n14_
          clear n0_ n1_ n2_ n3_ n4_ n5_ n6_ n7_ n8_ n9_ n10_ n11_ n12_ n13_ n14_
          (try clear hb)
          (try clear hb2)
          (try clear hk)
          (try clear hi)
          (try clear ho0)
          refine hK.out _ _ ⟨(bC_ BK806.out 0).trans rfl,(bC_ BK806.out 1).trans rfl,(bC_ BK806.out 2).trans rfl,(bC_ BK776.out 0).trans rfl,(bC_ BK776.out 1).trans rfl,(bC_ BK776.out 2).trans rfl,(bC_ BK776.out 3).trans rfl,(bC_ BK776.out 4).trans rfl,(bC_ BK776.out 5).trans rfl,(bC_ BK776.out 6).trans rfl⟩ (fun hHeld=>?_)
          clear hK K
          refine norm_ (a':=?_) ?_ ?_
          rotate_left
          ·show Act.put _ (some 71) _=_
           simp only [Act.put,List.setIfInBounds_toArray,List.set_cons_zero,List.set_cons_succ,i64_w,i32_w]
           rfl
          refine pure_ (i:=4) (N:=some 67) (v:=?_) (a':=?_) #[true,true,true,true,true,false,false,true,false,false] rfl rfl (any_of HT_.out (by kernel_rfl)) (fun _ _ _ h=>h) (Or.inl ⟨by rfl,?_⟩) ?_ ?_
          rotate_left
          ·intro w'
           go_simp
           with_reducible rfl
          rotate_left
          ·simp only [Act.put,List.setIfInBounds_toArray,List.set_cons_zero,List.set_cons_succ,i64_w,i32_w]
           rfl
          refine pure_ (i:=5) (N:=some 72) (v:=?_) (a':=?_) #[true,true,true,true,true,true,false,true,false,false] rfl rfl (any_of HT_.out (by kernel_rfl)) (fun _ _ _ h=>h) (Or.inl ⟨by rfl,?_⟩) ?_ ?_
          rotate_left
          ·intro w'
           go_simp
           with_reducible rfl
          rotate_left
          ·simp only [Act.put,List.setIfInBounds_toArray,List.set_cons_zero,List.set_cons_succ,i64_w,i32_w]
           rfl
          refine pure_ (i:=6) (N:=some 73) (v:=?_) (a':=?_) #[true,true,true,true,true,true,true,true,false,false] rfl rfl (any_of HT_.out (by kernel_rfl)) (fun _ _ _ h=>h) (Or.inl ⟨by rfl,?_⟩) ?_ ?_
          rotate_left
          ·intro w'
           go_simp
           with_reducible rfl
          rotate_left
          ·simp only [Act.put,List.setIfInBounds_toArray,List.set_cons_zero,List.set_cons_succ,i64_w,i32_w]
           rfl
          exact norm_ (by simp only [putAll,Act.put,List.setIfInBounds_toArray,List.set_cons_zero,List.set_cons_succ]) (hCont (.slice Ao67 t807.length co67,v813,gb818) _ ⟨hHeld,(by (with_reducible repeat (first|apply Kd.R_alloc|apply Kd.R_drewN|apply Kd.R_drew));exact Kd.R_mono HO765.out (fun _ hk=>⟨hk.1.1.1,⟨hk.1.1.2.1,⟨hk.1.1.2.2.1,⟨hk.1.1.2.2.2.1,⟨hk.1.2,⟨hk.2,hk.1.1.2.2.2.2⟩⟩⟩⟩⟩⟩)),(by (with_reducible repeat (first|apply Kd.R_alloc|apply Kd.R_drewN|apply Kd.R_drew));exact Kd.R_mono HO779.out (fun _ hk=>⟨hk.1.1.1,⟨hk.1.1.2.1,⟨hk.1.1.2.2.1,⟨hk.1.1.2.2.2.1,⟨hk.1.2,⟨hk.2,hk.1.1.2.2.2.2⟩⟩⟩⟩⟩⟩)),(by (with_reducible repeat (first|apply Kd.R_alloc|apply Kd.R_drewN|apply Kd.R_drew));exact Kd.R_mono HO786.out (fun _ hk=>⟨hk.1.1.1,⟨hk.1.1.2.1,⟨hk.1.1.2.2.1,⟨hk.1.1.2.2.2.1,⟨hk.1.2,⟨hk.2,hk.1.1.2.2.2.2⟩⟩⟩⟩⟩⟩)),(by (with_reducible repeat (first|apply Kd.R_alloc|apply Kd.R_drewN|apply Kd.R_drew));exact Kd.R_mono HO795.out (fun _ hk=>⟨hk.1.1.1,⟨hk.1.1.2.1,⟨hk.1.1.2.2.1,⟨hk.1.1.2.2.2.1,⟨hk.1.2,⟨hk.2,hk.1.1.2.2.2.2⟩⟩⟩⟩⟩⟩)),(by (with_reducible repeat (first|apply Kd.R_alloc|apply Kd.R_drewN|apply Kd.R_drew));exact Kd.R_mono HO802.out (fun _ hk=>⟨hk.1.1.1,⟨hk.1.1.2.1,⟨hk.1.1.2.2.1,⟨hk.1.1.2.2.2.1,⟨hk.1.2,⟨hk.2,hk.1.1.2.2.2.2⟩⟩⟩⟩⟩⟩)),(by (with_reducible repeat (first|apply Kd.R_alloc|apply Kd.R_drewN|apply Kd.R_drew));exact Kd.R_mono HO809.out (fun _ hk=>⟨hk.1.1.1.1.1.1.2,⟨hk.1.1.1.1.1.2,⟨hk.1.1.1.1.2,⟨hk.1.1.1.2,⟨hk.1.1.2,⟨hk.2,hk.1.2⟩⟩⟩⟩⟩⟩)),(by (with_reducible repeat (first|apply Kd.R_alloc|apply Kd.R_drewN|apply Kd.R_drew));exact Kd.R_mono HO814.out (fun _ hk=>⟨hk.1.1.1.1.1.1.2,⟨hk.1.1.1.1.1.2,⟨hk.1.1.1.1.2,⟨hk.1.1.1.2,⟨hk.1.1.2,⟨hk.1.2,hk.2⟩⟩⟩⟩⟩⟩)),(bp_ BK775.out),(bp_ BK776.out),(bp_ BK783.out),(bp_ BK790.out),(bp_ BK799.out),(bp_ BK806.out),(bp_ BK818.out),GW818.out,GE818.out,NB775_818.out,NB818_775.out,NB776_818.out,NB818_776.out,NB783_818.out,NB818_783.out,NB790_818.out,NB818_790.out,NB799_818.out,NB818_799.out,NB806_818.out,NB818_806.out,(bel_)⟩)
        rintro ⟨v808,v813,gb818⟩ w69 ⟨hS_,h0_,h1_,h2_,h3_,h4_,h5_,h6_,h7_,h8_,h9_,h10_,h11_,h12_,h13_,h14_,h15_,h16_,h17_,h18_,h19_,h20_,h21_,h22_,h23_,h24_,h25_,h26_,h27_,h28_⟩
        have n0_:Aside0 (Kd.R k44 44 w69 w.heap.size (fun k_=>some k_≠(.slice Ao28 t777.length co28:Value).ownBlock∧some k_≠(.slice Ao36 t784.length co36:Value).ownBlock∧some k_≠(.slice Ao47 t793.length co47:Value).ownBlock∧some k_≠(.slice Ao56 t800.length co56:Value).ownBlock∧some k_≠(v808:Value).ownBlock∧some k_≠(v813:Value).ownBlock∧k_≠gb776) (.slice Ao22 t763.length co22) t763):=⟨h0_⟩
        have n1_:Aside0 (Kd.R k44 44 w69 w.heap.size (fun k_=>some k_≠(.slice Ao22 t763.length co22:Value).ownBlock∧some k_≠(.slice Ao36 t784.length co36:Value).ownBlock∧some k_≠(.slice Ao47 t793.length co47:Value).ownBlock∧some k_≠(.slice Ao56 t800.length co56:Value).ownBlock∧some k_≠(v808:Value).ownBlock∧some k_≠(v813:Value).ownBlock∧k_≠gb776) (.slice Ao28 t777.length co28) t777):=⟨h1_⟩
        have n2_:Aside0 (Kd.R k44 44 w69 w.heap.size (fun k_=>some k_≠(.slice Ao22 t763.length co22:Value).ownBlock∧some k_≠(.slice Ao28 t777.length co28:Value).ownBlock∧some k_≠(.slice Ao47 t793.length co47:Value).ownBlock∧some k_≠(.slice Ao56 t800.length co56:Value).ownBlock∧some k_≠(v808:Value).ownBlock∧some k_≠(v813:Value).ownBlock∧k_≠gb776) (.slice Ao36 t784.length co36) t784):=⟨h2_⟩
        have n3_:Aside0 (Kd.R k44 44 w69 w.heap.size (fun k_=>some k_≠(.slice Ao22 t763.length co22:Value).ownBlock∧some k_≠(.slice Ao28 t777.length co28:Value).ownBlock∧some k_≠(.slice Ao36 t784.length co36:Value).ownBlock∧some k_≠(.slice Ao56 t800.length co56:Value).ownBlock∧some k_≠(v808:Value).ownBlock∧some k_≠(v813:Value).ownBlock∧k_≠gb776) (.slice Ao47 t793.length co47) t793):=⟨h3_⟩
        have n4_:Aside0 (Kd.R k44 44 w69 w.heap.size (fun k_=>some k_≠(.slice Ao22 t763.length co22:Value).ownBlock∧some k_≠(.slice Ao28 t777.length co28:Value).ownBlock∧some k_≠(.slice Ao36 t784.length co36:Value).ownBlock∧some k_≠(.slice Ao47 t793.length co47:Value).ownBlock∧some k_≠(v808:Value).ownBlock∧some k_≠(v813:Value).ownBlock∧k_≠gb776) (.slice Ao56 t800.length co56) t800):=⟨h4_⟩
        have n5_:Aside0 (Kd.R k44 44 w69 w.heap.size (fun k_=>some k_≠(.slice Ao22 t763.length co22:Value).ownBlock∧some k_≠(.slice Ao28 t777.length co28:Value).ownBlock∧some k_≠(.slice Ao36 t784.length co36:Value).ownBlock∧some k_≠(.slice Ao47 t793.length co47:Value).ownBlock∧some k_≠(.slice Ao56 t800.length co56:Value).ownBlock∧some k_≠(v813:Value).ownBlock∧k_≠gb776) v808 t807):=⟨h5_⟩
        have n6_:Aside0 (Kd.R k44 44 w69 w.heap.size (fun k_=>some k_≠(.slice Ao22 t763.length co22:Value).ownBlock∧some k_≠(.slice Ao28 t777.length co28:Value).ownBlock∧some k_≠(.slice Ao36 t784.length co36:Value).ownBlock∧some k_≠(.slice Ao47 t793.length co47:Value).ownBlock∧some k_≠(.slice Ao56 t800.length co56:Value).ownBlock∧some k_≠(v808:Value).ownBlock∧k_≠gb776) v813 t812):=⟨h6_⟩
        have n7_:Aside0 (w69.heap[gb775]?=some (.cells #[.slice Ao22 t763.length co22,.int .i64 t766,.bool t767] 25 (0,0))):=⟨h7_⟩
        have n8_:Aside0 (w69.heap[gb776]?=some (.cells #[.int .i64 t768,.int .i64 t769,.int .i64 t770,.int .i64 t771,.int .i64 t772,.int .i64 t773,.string t774] 44 (0,0))):=⟨h8_⟩
        have n9_:Aside0 (w69.heap[gb783]?=some (.cells #[.slice Ao28 t777.length co28,.int .i64 t780,.bool t781] 25 (0,0))):=⟨h9_⟩
        have n10_:Aside0 (w69.heap[gb790]?=some (.cells #[.slice Ao36 t784.length co36,.int .i64 t787,.bool t788] 25 (0,0))):=⟨h10_⟩
        have n11_:Aside0 (w69.heap[gb799]?=some (.cells #[.slice Ao47 t793.length co47,.int .i64 t796,.bool t797] 25 (0,0))):=⟨h11_⟩
        have n12_:Aside0 (w69.heap[gb806]?=some (.cells #[.slice Ao56 t800.length co56,.int .i64 t803,.bool t804] 25 (0,0))):=⟨h12_⟩
        have n13_:Aside0 (w69.heap[gb818]?=some (.cells #[.slice none 0 0,.int .i64 0,.bool false] 25 (0,0))):=⟨h13_⟩
        have n14_:Aside0 (w.heap.size≤gb818):=⟨h14_⟩
        have n15_:Aside0 (w.heap.size≤gb818):=⟨h15_⟩
        have n16_:Aside0 (gb775≠gb818):=⟨h16_⟩
        have n17_:Aside0 (gb818≠gb775):=⟨h17_⟩
        have n18_:Aside0 (gb776≠gb818):=⟨h18_⟩
        have n19_:Aside0 (gb818≠gb776):=⟨h19_⟩
        have n20_:Aside0 (gb783≠gb818):=⟨h20_⟩
        have n21_:Aside0 (gb818≠gb783):=⟨h21_⟩
        have n22_:Aside0 (gb790≠gb818):=⟨h22_⟩
        have n23_:Aside0 (gb818≠gb790):=⟨h23_⟩
        have n24_:Aside0 (gb799≠gb818):=⟨h24_⟩
        have n25_:Aside0 (gb818≠gb799):=⟨h25_⟩
        have n26_:Aside0 (gb806≠gb818):=⟨h26_⟩
        have n27_:Aside0 (gb818≠gb806):=⟨h27_⟩
        have n28_:Aside0 (Below w.heap.size w w69):=⟨h28_⟩
        clear HO765
        clear HO779
        clear HO786
        clear HO795
        clear HO802
        clear BK775
        clear BK776
        clear BK783
        clear BK790
        clear BK799
        clear BK806
        clear HB
        clear h0_ h1_ h2_ h3_ h4_ h5_ h6_ h7_ h8_ h9_ h10_ h11_ h12_ h13_ h14_ h15_ h16_ h17_ h18_ h19_ h20_ h21_ h22_ h23_ h24_ h25_ h26_ h27_ h28_
        have HO765:=n0_
        have HO779:=n1_
        have HO786:=n2_
        have HO795:=n3_
        have HO802:=n4_
        have HO809:=n5_
        have HO814:=n6_
        have BK775:=n7_
        have BK776:=n8_
        have BK783:=n9_
        have BK790:=n10_
        have BK799:=n11_
        have BK806:=n12_
        have BK818:=n13_
        have GW818:=n14_
        have GE818:=n15_
        have NB775_818:=n16_
        have NB818_775:=n17_
        have NB776_818:=n18_
        have NB818_776:=n19_
        have NB783_818:=n20_
        have NB818_783:=n21_
        have NB790_818:=n22_
        have NB818_790:=n23_
        have NB799_818:=n24_
        have NB818_799:=n25_
        have NB806_818:=n26_
        have NB818_806:=n27_
        have HB:=n28_
        clear n0_ n1_ n2_ n3_ n4_ n5_ n6_ n7_ n8_ n9_ n10_ n11_ n12_ n13_ n14_ n15_ n16_ n17_ n18_ n19_ n20_ n21_ n22_ n23_ n24_ n25_ n26_ n27_ n28_
        have hHeld:w69.cell? ⟨gb806,0,none⟩=some (.slice Ao56 t800.length co56)∧w69.cell? ⟨gb806,1,none⟩=some (.int .i64 t803)∧w69.cell? ⟨gb806,2,none⟩=some (.bool t804)∧w69.cell? ⟨gb776,0,none⟩=some (.int .i64 t768)∧w69.cell? ⟨gb776,1,none⟩=some (.int .i64 t769)∧w69.cell? ⟨gb776,2,none⟩=some (.int .i64 t770)∧w69.cell? ⟨gb776,3,none⟩=some (.int .i64 t771)∧w69.cell? ⟨gb776,4,none⟩=some (.int .i64 t772)∧w69.cell? ⟨gb776,5,none⟩=some (.int .i64 t773)∧w69.cell? ⟨gb776,6,none⟩=some (.string t774):=hS_
        obtain ⟨Ao70,co70,eo70⟩:=Kd.R_slice HO814.out
        (first|subst eo70|(injection eo70 with f1_ f2_ f3_;have f4_:=f1_.symm;have f5_:=f3_.symm;clear f1_ f2_ f3_;subst f4_;subst f5_))
        refine norm_ (a':=?_) ?_ ?_
        rotate_left
        ·simp only [putAll,Act.put,List.setIfInBounds_toArray,List.set_cons_zero,List.set_cons_succ]
         rfl
        refine one_ (i:=8) (N:=none) #[true,true,true,true,true,true,true,true,true,false] rfl rfl (one_of HT_.out (by kernel_rfl)) (by decide) (fun K hK=>?_)
        have hs71:w69.cell? ⟨gb818,0,none⟩=some (.slice none 0 0):=(bC_ BK818.out 0).trans rfl
        have hfs71:=bF_ BK818.out 0
        have hns71_0:=NB775_818.out
        have hns71_1:=NB776_818.out
        have hns71_2:=NB783_818.out
        have hns71_3:=NB790_818.out
        have hns71_4:=NB799_818.out
        have hns71_5:=NB806_818.out
        have hms71_0:=NB818_775.out
        have hms71_1:=NB818_776.out
        have hms71_2:=NB818_783.out
        have hms71_3:=NB818_790.out
        have hms71_4:=NB818_799.out
        have hms71_5:=NB818_806.out
        have hs72:w69.cell? ⟨gb818,1,none⟩=some (.int .i64 0):=(bC_ BK818.out 1).trans rfl
        have hfs72:=bF_ BK818.out 1
        have hns72_0:=NB775_818.out
        have hns72_1:=NB776_818.out
        have hns72_2:=NB783_818.out
        have hns72_3:=NB790_818.out
        have hns72_4:=NB799_818.out
        have hns72_5:=NB806_818.out
        have hms72_0:=NB818_775.out
        have hms72_1:=NB818_776.out
        have hms72_2:=NB818_783.out
        have hms72_3:=NB818_790.out
        have hms72_4:=NB818_799.out
        have hms72_5:=NB818_806.out
        have hs73:w69.cell? ⟨gb818,2,none⟩=some (.bool false):=(bC_ BK818.out 2).trans rfl
        have hfs73:=bF_ BK818.out 2
        have hns73_0:=NB775_818.out
        have hns73_1:=NB776_818.out
        have hns73_2:=NB783_818.out
        have hns73_3:=NB790_818.out
        have hns73_4:=NB799_818.out
        have hns73_5:=NB806_818.out
        have hms73_0:=NB818_775.out
        have hms73_1:=NB818_776.out
        have hms73_2:=NB818_783.out
        have hms73_3:=NB818_790.out
        have hms73_4:=NB818_799.out
        have hms73_5:=NB818_806.out
        refine skip_ (w1:=?_) (by rfl) rfl ?_ ?_
        rotate_left
        ·go_simp
         rfl
        refine hK.out _ _ ⟨(cf3_ (g:=gb818) NB806_818.out (hHeld.1)),(cf3_ (g:=gb818) NB806_818.out (hHeld.2.1)),(cf3_ (g:=gb818) NB806_818.out (hHeld.2.2.1)),(cf3_ (g:=gb818) NB776_818.out (hHeld.2.2.2.1)),(cf3_ (g:=gb818) NB776_818.out (hHeld.2.2.2.2.1)),(cf3_ (g:=gb818) NB776_818.out (hHeld.2.2.2.2.2.1)),(cf3_ (g:=gb818) NB776_818.out (hHeld.2.2.2.2.2.2.1)),(cf3_ (g:=gb818) NB776_818.out (hHeld.2.2.2.2.2.2.2.1)),(cf3_ (g:=gb818) NB776_818.out (hHeld.2.2.2.2.2.2.2.2.1)),(cf3_ (g:=gb818) NB776_818.out (hHeld.2.2.2.2.2.2.2.2.2))⟩ (fun hHeld=>?_)
        clear hK K
        refine pure_ (i:=9) (N:=some 14) (v:=?_) (a':=?_) #[true,true,true,true,true,true,true,true,true,true] rfl rfl (any_of HT_.out (by kernel_rfl)) (fun _ _ _ h=>h) (Or.inl ⟨by rfl,?_⟩) ?_ ?_
        rotate_left
        ·intro w'
         go_simp
         with_reducible rfl
        rotate_left
        ·simp only [Act.put,List.setIfInBounds_toArray,List.set_cons_zero,List.set_cons_succ,i64_w,i32_w]
         rfl
        refine done_ (done_of HT_.out (by kernel_rfl)) ?_
        have hnb74:=NB799_818.out
        have hnc74:=NB818_799.out
        have Z75_0:=cz_ BK799.out 0 (.slice Ao47 t793.length co47)
        have Z75_1:=cz_ BK799.out 1 (.int .i64 t796)
        have Z75_2:=cz_ BK799.out 2 (.bool t797)
        have Y75_0:=bF_ BK799.out 0
        have Y75_1:=bF_ BK799.out 1
        have Y75_2:=bF_ BK799.out 2
        have hnb76:=NB790_818.out
        have hnc76:=NB818_790.out
        have Z77_0:=cz_ BK790.out 0 (.slice Ao36 t784.length co36)
        have Z77_1:=cz_ BK790.out 1 (.int .i64 t787)
        have Z77_2:=cz_ BK790.out 2 (.bool t788)
        have Y77_0:=bF_ BK790.out 0
        have Y77_1:=bF_ BK790.out 1
        have Y77_2:=bF_ BK790.out 2
        try go_wp2_with (first|(go_at_call 29;(with_reducible refine (laws_lpServer.calls k _ _ t793 t796 t797 _ _ t784 t787 t788 true _ ?side1 ?side2 ?side3 ?side4 A15.out).mono ?_);(case side1=>refine (Kd.R_reads' (e:=44) (base:=w.heap.size) (ok:=fun k_=>(some k_≠(.slice Ao22 t763.length co22:Value).ownBlock∧(some k_≠(.slice Ao28 t777.length co28:Value).ownBlock∧(some k_≠(.slice Ao36 t784.length co36:Value).ownBlock∧(some k_≠(.slice Ao56 t800.length co56:Value).ownBlock∧(some k_≠(v808:Value).ownBlock∧(some k_≠(.slice Ao70 t812.length co70:Value).ownBlock∧k_≠gb776))))))) (n:=t793.length) (c:=co47) ?_).2.2;exact (by (with_reducible repeat (first|apply Kd.R_alloc|apply Kd.R_drewN|apply Kd.R_drew));exact (Kd.R_mono (rf3_ (g:=gb818) (Kd.R_types HO795.out BK818.out (by decide)) (fun _ hk=>hk.2) (.slice Ao70 t812.length co70) (.int .i64 t815) (.bool t816)) (fun _ h_=>h_.1))));(case side2=>exact (Kd.R_reads' HO795.out).2.1);(case side3=>refine (Kd.R_reads' (e:=44) (base:=w.heap.size) (ok:=fun k_=>(some k_≠(.slice Ao22 t763.length co22:Value).ownBlock∧(some k_≠(.slice Ao28 t777.length co28:Value).ownBlock∧(some k_≠(.slice Ao47 t793.length co47:Value).ownBlock∧(some k_≠(.slice Ao56 t800.length co56:Value).ownBlock∧(some k_≠(v808:Value).ownBlock∧(some k_≠(.slice Ao70 t812.length co70:Value).ownBlock∧k_≠gb776))))))) (n:=t784.length) (c:=co36) ?_).2.2;exact (by (with_reducible repeat (first|apply Kd.R_alloc|apply Kd.R_drewN|apply Kd.R_drew));exact (Kd.R_mono (rf3_ (g:=gb818) (Kd.R_types HO786.out BK818.out (by decide)) (fun _ hk=>hk.2) (.slice Ao70 t812.length co70) (.int .i64 t815) (.bool t816)) (fun _ h_=>h_.1))));(case side4=>exact (Kd.R_reads' HO786.out).2.1);rintro e w78 ⟨rfl,hb⟩;have n0_:=a_ (Kd.R_below (by (with_reducible repeat (first|apply Kd.R_alloc|apply Kd.R_drewN|apply Kd.R_drew));exact (Kd.R_mono (rf3_ (g:=gb818) (Kd.R_types HO765.out BK818.out (by decide)) (fun _ hk=>hk.2) (.slice Ao70 t812.length co70) (.int .i64 t815) (.bool t816)) (fun _ h_=>h_.1))) hb);have n1_:=a_ (Kd.R_below (by (with_reducible repeat (first|apply Kd.R_alloc|apply Kd.R_drewN|apply Kd.R_drew));exact (Kd.R_mono (rf3_ (g:=gb818) (Kd.R_types HO779.out BK818.out (by decide)) (fun _ hk=>hk.2) (.slice Ao70 t812.length co70) (.int .i64 t815) (.bool t816)) (fun _ h_=>h_.1))) hb);have n2_:=a_ (Kd.R_below (by (with_reducible repeat (first|apply Kd.R_alloc|apply Kd.R_drewN|apply Kd.R_drew));exact (Kd.R_mono (rf3_ (g:=gb818) (Kd.R_types HO786.out BK818.out (by decide)) (fun _ hk=>hk.2) (.slice Ao70 t812.length co70) (.int .i64 t815) (.bool t816)) (fun _ h_=>h_.1))) hb);have n3_:=a_ (Kd.R_below (by (with_reducible repeat (first|apply Kd.R_alloc|apply Kd.R_drewN|apply Kd.R_drew));exact (Kd.R_mono (rf3_ (g:=gb818) (Kd.R_types HO795.out BK818.out (by decide)) (fun _ hk=>hk.2) (.slice Ao70 t812.length co70) (.int .i64 t815) (.bool t816)) (fun _ h_=>h_.1))) hb);have n4_:=a_ (Kd.R_below (by (with_reducible repeat (first|apply Kd.R_alloc|apply Kd.R_drewN|apply Kd.R_drew));exact (Kd.R_mono (rf3_ (g:=gb818) (Kd.R_types HO802.out BK818.out (by decide)) (fun _ hk=>hk.2) (.slice Ao70 t812.length co70) (.int .i64 t815) (.bool t816)) (fun _ h_=>h_.1))) hb);have n5_:=a_ (Kd.R_below (by (with_reducible repeat (first|apply Kd.R_alloc|apply Kd.R_drewN|apply Kd.R_drew));exact (Kd.R_mono (rf3_ (g:=gb818) (Kd.R_types HO809.out BK818.out (by decide)) (fun _ hk=>hk.2) (.slice Ao70 t812.length co70) (.int .i64 t815) (.bool t816)) (fun _ h_=>h_.1))) hb);have n6_:=a_ (Kd.R_below (by (with_reducible repeat (first|apply Kd.R_alloc|apply Kd.R_drewN|apply Kd.R_drew));exact (Kd.R_mono (rf3_ (g:=gb818) (Kd.R_types HO814.out BK818.out (by decide)) (fun _ hk=>hk.2) (.slice Ao70 t812.length co70) (.int .i64 t815) (.bool t816)) (fun _ h_=>h_.1))) hb);have n7_:=a_ (blk_below (g:=gb775) (o:=.cells #[.slice Ao22 t763.length co22,.int .i64 t766,.bool t767] 25 (0,0)) (fp1_ NB775_818.out BK775.out) hb);have n8_:=a_ (blk_below (g:=gb776) (o:=.cells #[.int .i64 t768,.int .i64 t769,.int .i64 t770,.int .i64 t771,.int .i64 t772,.int .i64 t773,.string t774] 44 (0,0)) (fp1_ NB776_818.out BK776.out) hb);have n9_:=a_ (blk_below (g:=gb783) (o:=.cells #[.slice Ao28 t777.length co28,.int .i64 t780,.bool t781] 25 (0,0)) (fp1_ NB783_818.out BK783.out) hb);have n10_:=a_ (blk_below (g:=gb790) (o:=.cells #[.slice Ao36 t784.length co36,.int .i64 t787,.bool t788] 25 (0,0)) (fp1_ NB790_818.out BK790.out) hb);have n11_:=a_ (blk_below (g:=gb799) (o:=.cells #[.slice Ao47 t793.length co47,.int .i64 t796,.bool t797] 25 (0,0)) (fp1_ NB799_818.out BK799.out) hb);have n12_:=a_ (blk_below (g:=gb806) (o:=.cells #[.slice Ao56 t800.length co56,.int .i64 t803,.bool t804] 25 (0,0)) (fp1_ NB806_818.out BK806.out) hb);have n13_:=a_ (blk_below (g:=gb818) (o:=.cells #[.slice Ao70 t812.length co70,.int .i64 t815,.bool t816] 25 (0,0)) (k3p_ BK818.out) hb);have n14_:=a_ (bS_ (bel_) hb);clear HO765;clear HO779;clear HO786;clear HO795;clear HO802;clear HO809;clear HO814;clear BK775;clear BK776;clear BK783;clear BK790;clear BK799;clear BK806;clear BK818;clear HB;have HO765:=n0_;have HO779:=n1_;have HO786:=n2_;have HO795:=n3_;have HO802:=n4_;have HO809:=n5_;have HO814:=n6_;have BK775:=n7_;have BK776:=n8_;have BK783:=n9_;have BK790:=n10_;have BK799:=n11_;have BK806:=n12_;have BK818:=n13_;have HB:=n14_;clear n0_ n1_ n2_ n3_ n4_ n5_ n6_ n7_ n8_ n9_ n10_ n11_ n12_ n13_ n14_;(try clear hb);have hnb79:=NB818_775.out;have hnc79:=NB775_818.out;have hnb80:=NB818_776.out;have hnc80:=NB776_818.out;have hnb81:=NB818_783.out;have hnc81:=NB783_818.out;have hnb82:=NB818_806.out;have hnc82:=NB806_818.out;have Z83_0:=cz_ BK818.out 0 (.slice Ao70 t812.length co70);have Z83_1:=cz_ BK818.out 1 (.int .i64 t815);have Z83_2:=cz_ BK818.out 2 (.bool t816);have Y83_0:=bF_ BK818.out 0;have Y83_1:=bF_ BK818.out 1;have Y83_2:=bF_ BK818.out 2;have Z84_0:=cz_ BK790.out 0 (.slice Ao36 t784.length co36);have Z84_1:=cz_ BK790.out 1 (.int .i64 t787);have Z84_2:=cz_ BK790.out 2 (.bool t788);have Y84_0:=bF_ BK790.out 0;have Y84_1:=bF_ BK790.out 1;have Y84_2:=bF_ BK790.out 2)|(go_at_call 32;(with_reducible refine (laws_lpLog.calls k _ _ t812 _ _ t784 t820 _ ?side1 ?side2 ?side3 ?side4 A18.out).mono ?_);(case side1=>exact cx_ (Kd.R_reads' HO814.out).2.2);(case side2=>exact (Kd.R_reads' HO814.out).2.1);(case side3=>exact cx_ (Kd.R_reads' HO786.out).2.2);(case side4=>exact (Kd.R_reads' HO786.out).2.1);rintro e w' ⟨rfl,⟨nd,rfl⟩⟩))
        go_ret
        exact ⟨fi_,bel_⟩
      ·replace c16:=Bool.eq_false_iff.mpr c16
       subst c16
       have H1:(none)=some r:=by rw [if_neg (show ¬ (false=true) by decide)] at H;exact H
       clear H
       have H:=H1
       clear H1
       exact absurd H (by simp)
    ·replace c9:=Bool.eq_false_iff.mpr c9
     subst c9
     have H1:(if (false==t782)=true then ((laws_lpServer.f k t784 t787 t788 t777 t780 t781).bind fun t792=>(some t792)) else (none))=some r:=by rw [if_neg (show ¬ (false=true) by decide)] at H;exact H
     clear H
     have H:=H1
     clear H1
     by_cases c85:(false==t782)=true
     ·rw [if_pos c85] at H
      have c85b0:(false==t782)=true:=c85
      (try (have c85b1:decide (false=t782)=true:=by simpa using c85))
      (try (have c85b2:(false==t782)=true:=by simpa using c85))
      clear c85
      replace H:=bs_ H
      obtain ⟨t792,A860,H⟩:=H
      replace H:(some t792)=some r:=H
      have A86:=a_ A860
      clear A860
      obtain rfl:=sj_ H
      go_enter Tryd.func7,Tryd.ntmps7
      go_wp2_with (first|((with_reducible refine gC_ (f:=28) rfl ?_);refine gl_ 20 Tryd.func28 #[.slice A0 l0.length c0] ?_;(with_reducible refine (spec_DrawServerHear.calls k _ _ l0 t763 t766 t767 t768 t769 t770 t771 t772 t773 t774 _ ?side1 ?side2 A3.out).mono ?_);(case side1=>exact cx_ HR0.out);(case side2=>exact HC0.out);rintro e w87 ⟨v764,rfl,ho0,hb⟩;refine ⟨_,rfl,?_⟩;have HO765:=a_ (Kd.R_lower ho0 (below_size (bel_)));replace HB:=a_ (bS_ (bel_) hb);(try clear hb ho0))|((with_reducible refine gD_ (N:=3) rfl ?_);refine bx_ 3 (#[.slice none 0 0,.int .i64 0,.bool false]) 25 ?_;intro gb775 hg w88 hbox hb;have n0_:=a_ (Kd.R_below (rp_ HO765.out) hb);have n1_:=a_ (bS_ (bel_) hb);have n2_:=a_ (hbox);have n3_:=a_ ((by rw [hg];exact (below_size (bel_)):w.heap.size≤gb775));have n4_:=a_ ((by rw [hg];exact (below_size (bel_)):w.heap.size≤gb775));clear HO765;clear HB;have HO765:=n0_;have HB:=n1_;have BK775:=n2_;have GW775:=n3_;have GE775:=n4_;clear n0_ n1_ n2_ n3_ n4_;clear hb hbox hg)|((with_reducible refine gD_ (N:=4) rfl ?_);refine bx_ 4 (#[.int .i64 0,.int .i64 0,.int .i64 0,.int .i64 0,.int .i64 0,.int .i64 0,.string (⟨#[]⟩:ByteArray)]) 44 ?_;intro gb776 hg w89 hbox hb;have n0_:=a_ (Kd.R_below (Kd.R_elderB (rp_ HO765.out) gb776 (Nat.le_of_eq hg.symm)) hb);have n1_:=a_ (blk_below (g:=gb775) (o:=.cells #[.slice none 0 0,.int .i64 0,.bool false] 25 (0,0)) (bp_ BK775.out) hb);have n2_:=a_ (bS_ (bel_) hb);have n3_:=a_ (hbox);have n4_:=a_ ((by rw [hg];exact (below_size (bel_)):w.heap.size≤gb776));have n5_:=a_ ((by rw [hg];exact (below_size (bel_)):w.heap.size≤gb776));have n6_:=a_ ((by rw [hg];exact Nat.ne_of_lt (blk_lt (g:=gb775) (o:=.cells #[.slice none 0 0,.int .i64 0,.bool false] 25 (0,0)) (bp_ BK775.out)):gb775≠gb776));have n7_:=a_ ((by rw [hg];exact Nat.ne_of_gt (blk_lt (g:=gb775) (o:=.cells #[.slice none 0 0,.int .i64 0,.bool false] 25 (0,0)) (bp_ BK775.out)):gb776≠gb775));clear HO765;clear BK775;clear HB;have HO765:=n0_;have BK775:=n1_;have HB:=n2_;have BK776:=n3_;have GW776:=n4_;have GE776:=n5_;have NB775_776:=n6_;have NB776_775:=n7_;clear n0_ n1_ n2_ n3_ n4_ n5_ n6_ n7_;clear hb hbox hg;obtain ⟨Ao90,co90,eo90⟩:=Kd.R_slice HO765.out;subst eo90;have hnb91:=NB775_776.out;have hnc91:=NB776_775.out;have Z92_0:=cz_ BK775.out 0 (.slice none 0 0);have Z92_1:=cz_ BK775.out 1 (.int .i64 0);have Z92_2:=cz_ BK775.out 2 (.bool false);have Y92_0:=bF_ BK775.out 0;have Y92_1:=bF_ BK775.out 1;have Y92_2:=bF_ BK775.out 2;have Z93_0:=cz_ BK776.out 0 (.int .i64 0);have Z93_1:=cz_ BK776.out 1 (.int .i64 0);have Z93_2:=cz_ BK776.out 2 (.int .i64 0);have Z93_3:=cz_ BK776.out 3 (.int .i64 0);have Z93_4:=cz_ BK776.out 4 (.int .i64 0);have Z93_5:=cz_ BK776.out 5 (.int .i64 0);have Z93_6:=cz_ BK776.out 6 (.string (⟨#[]⟩:ByteArray));have Y93_0:=bF_ BK776.out 0;have Y93_1:=bF_ BK776.out 1;have Y93_2:=bF_ BK776.out 2;have Y93_3:=bF_ BK776.out 3;have Y93_4:=bF_ BK776.out 4;have Y93_5:=bF_ BK776.out 5;have Y93_6:=bF_ BK776.out 6)|((with_reducible refine gC_ (f:=21) rfl ?_);refine gl_ 26 Tryd.func21 #[.agg #[.slice Ao90 t763.length co90,.int .i64 t766,.bool t767],.agg #[.int .i64 t768,.int .i64 t769,.int .i64 t770,.int .i64 t771,.int .i64 t772,.int .i64 t773,.string t774]] ?_;(with_reducible refine (spec_ServerHear.calls k _ _ t763 t766 t767 t768 t769 t770 t771 t772 t773 t774 t777 t780 t781 t782 _ ?side1 ?side2 A4.out).mono ?_);(case side1=>refine (Kd.R_reads' (e:=44) (base:=w.heap.size) (ok:=fun k_=>(True∧k_≠gb776)) (n:=t763.length) (c:=co90) ?_).2.2;exact (by (with_reducible repeat (first|apply Kd.R_alloc|apply Kd.R_drewN|apply Kd.R_drew));exact (Kd.R_mono (Kd.R_mono (rf7_ (g:=gb776) (rf3_ (g:=gb775) (Kd.R_mono (Kd.R_types HO765.out BK775.out (by decide)) (fun k_ hk=>(⟨hk,hk.1.2⟩:_∧k_≠gb776))) (fun _ hk=>hk.1.2) (.slice Ao90 t763.length co90) (.int .i64 t766) (.bool t767)) (fun _ hk=>hk.2) (.int .i64 t768) (.int .i64 t769) (.int .i64 t770) (.int .i64 t771) (.int .i64 t772) (.int .i64 t773) (.string t774)) (fun _ h_=>h_.1)) (fun _ h_=>h_.1))));(case side2=>exact (Kd.R_reads' HO765.out).2.1);rintro e w94 ⟨v778,rfl,ho0,hb⟩;refine ⟨_,rfl,?_⟩;have n0_:=a_ (Kd.R_elder' (by (with_reducible repeat (first|apply Kd.R_alloc|apply Kd.R_drewN|apply Kd.R_drew));exact (Kd.R_mono (Kd.R_mono (rf7_ (g:=gb776) (rf3_ (g:=gb775) (Kd.R_mono (Kd.R_types HO765.out BK775.out (by decide)) (fun k_ hk=>(⟨hk,hk.1.2⟩:_∧k_≠gb776))) (fun _ hk=>hk.1.2) (.slice Ao90 t763.length co90) (.int .i64 t766) (.bool t767)) (fun _ hk=>hk.2) (.int .i64 t768) (.int .i64 t769) (.int .i64 t770) (.int .i64 t771) (.int .i64 t772) (.int .i64 t773) (.string t774)) (fun _ h_=>h_.1)) (fun _ h_=>h_.1))) (Kd.R_base ho0) hb);have n1_:=a_ (Kd.R_lower (Kd.R_newB (Kd.R_new' ho0 (Kd.R_lt (by (with_reducible repeat (first|apply Kd.R_alloc|apply Kd.R_drewN|apply Kd.R_drew));exact (Kd.R_mono (Kd.R_mono (rf7_ (g:=gb776) (rf3_ (g:=gb775) (Kd.R_mono (Kd.R_types HO765.out BK775.out (by decide)) (fun k_ hk=>(⟨hk,hk.1.2⟩:_∧k_≠gb776))) (fun _ hk=>hk.1.2) (.slice Ao90 t763.length co90) (.int .i64 t766) (.bool t767)) (fun _ hk=>hk.2) (.int .i64 t768) (.int .i64 t769) (.int .i64 t770) (.int .i64 t771) (.int .i64 t772) (.int .i64 t773) (.string t774)) (fun _ h_=>h_.1)) (fun _ h_=>h_.1))))) (g:=gb776) (o:=.cells #[.int .i64 t768,.int .i64 t769,.int .i64 t770,.int .i64 t771,.int .i64 t772,.int .i64 t773,.string t774] 44 (0,0)) (k7p1_ NB776_775.out BK776.out)) (below_size (bel_)));have n2_:=a_ (blk_below (g:=gb775) (o:=.cells #[.slice Ao90 t763.length co90,.int .i64 t766,.bool t767] 25 (0,0)) (k3p1_ NB775_776.out BK775.out) hb);have n3_:=a_ (blk_below (g:=gb776) (o:=.cells #[.int .i64 t768,.int .i64 t769,.int .i64 t770,.int .i64 t771,.int .i64 t772,.int .i64 t773,.string t774] 44 (0,0)) (k7p1_ NB776_775.out BK776.out) hb);have n4_:=a_ (bS_ (bel_) hb);clear HO765;clear BK775;clear BK776;clear HB;have HO765:=n0_;have HO779:=n1_;have BK775:=n2_;have BK776:=n3_;have HB:=n4_;clear n0_ n1_ n2_ n3_ n4_;(try clear hb ho0))|((with_reducible refine gD_ (N:=5) rfl ?_);refine bx_ 5 (#[.slice none 0 0,.int .i64 0,.bool false]) 25 ?_;intro gb783 hg w95 hbox hb;have n0_:=a_ (Kd.R_below (rp_ HO765.out) hb);have n1_:=a_ (Kd.R_below (rp_ HO779.out) hb);have n2_:=a_ (blk_below (g:=gb775) (o:=.cells #[.slice Ao90 t763.length co90,.int .i64 t766,.bool t767] 25 (0,0)) (bp_ BK775.out) hb);have n3_:=a_ (blk_below (g:=gb776) (o:=.cells #[.int .i64 t768,.int .i64 t769,.int .i64 t770,.int .i64 t771,.int .i64 t772,.int .i64 t773,.string t774] 44 (0,0)) (bp_ BK776.out) hb);have n4_:=a_ (bS_ (bel_) hb);have n5_:=a_ (hbox);have n6_:=a_ ((by rw [hg];exact (below_size (bel_)):w.heap.size≤gb783));have n7_:=a_ ((by rw [hg];exact (below_size (bel_)):w.heap.size≤gb783));have n8_:=a_ ((by rw [hg];exact Nat.ne_of_lt (blk_lt (g:=gb775) (o:=.cells #[.slice Ao90 t763.length co90,.int .i64 t766,.bool t767] 25 (0,0)) (bp_ BK775.out)):gb775≠gb783));have n9_:=a_ ((by rw [hg];exact Nat.ne_of_gt (blk_lt (g:=gb775) (o:=.cells #[.slice Ao90 t763.length co90,.int .i64 t766,.bool t767] 25 (0,0)) (bp_ BK775.out)):gb783≠gb775));have n10_:=a_ ((by rw [hg];exact Nat.ne_of_lt (blk_lt (g:=gb776) (o:=.cells #[.int .i64 t768,.int .i64 t769,.int .i64 t770,.int .i64 t771,.int .i64 t772,.int .i64 t773,.string t774] 44 (0,0)) (bp_ BK776.out)):gb776≠gb783));have n11_:=a_ ((by rw [hg];exact Nat.ne_of_gt (blk_lt (g:=gb776) (o:=.cells #[.int .i64 t768,.int .i64 t769,.int .i64 t770,.int .i64 t771,.int .i64 t772,.int .i64 t773,.string t774] 44 (0,0)) (bp_ BK776.out)):gb783≠gb776));clear HO765;clear HO779;clear BK775;clear BK776;clear HB;have HO765:=n0_;have HO779:=n1_;have BK775:=n2_;have BK776:=n3_;have HB:=n4_;have BK783:=n5_;have GW783:=n6_;have GE783:=n7_;have NB775_783:=n8_;have NB783_775:=n9_;have NB776_783:=n10_;have NB783_776:=n11_;clear n0_ n1_ n2_ n3_ n4_ n5_ n6_ n7_ n8_ n9_ n10_ n11_;clear hb hbox hg;obtain ⟨Ao96,co96,eo96⟩:=Kd.R_slice HO779.out;subst eo96;have hnb97:=NB783_775.out;have hnc97:=NB775_783.out;have hnb98:=NB783_776.out;have hnc98:=NB776_783.out;have Z99_0:=cz_ BK783.out 0 (.slice none 0 0);have Z99_1:=cz_ BK783.out 1 (.int .i64 0);have Z99_2:=cz_ BK783.out 2 (.bool false);have Y99_0:=bF_ BK783.out 0;have Y99_1:=bF_ BK783.out 1;have Y99_2:=bF_ BK783.out 2;have Z100_0:=cz_ BK775.out 0 (.slice Ao90 t763.length co90);have Z100_1:=cz_ BK775.out 1 (.int .i64 t766);have Z100_2:=cz_ BK775.out 2 (.bool t767);have Y100_0:=bF_ BK775.out 0;have Y100_1:=bF_ BK775.out 1;have Y100_2:=bF_ BK775.out 2;have Z101_0:=cz_ BK776.out 0 (.int .i64 t768);have Z101_1:=cz_ BK776.out 1 (.int .i64 t769);have Z101_2:=cz_ BK776.out 2 (.int .i64 t770);have Z101_3:=cz_ BK776.out 3 (.int .i64 t771);have Z101_4:=cz_ BK776.out 4 (.int .i64 t772);have Z101_5:=cz_ BK776.out 5 (.int .i64 t773);have Z101_6:=cz_ BK776.out 6 (.string t774);have Y101_0:=bF_ BK776.out 0;have Y101_1:=bF_ BK776.out 1;have Y101_2:=bF_ BK776.out 2;have Y101_3:=bF_ BK776.out 3;have Y101_4:=bF_ BK776.out 4;have Y101_5:=bF_ BK776.out 5;have Y101_6:=bF_ BK776.out 6)|((with_reducible refine gC_ (f:=24) rfl ?_);refine gl_ 32 Tryd.func24 #[.agg #[.slice Ao90 t763.length co90,.int .i64 t766,.bool t767],.agg #[.int .i64 t768,.int .i64 t769,.int .i64 t770,.int .i64 t771,.int .i64 t772,.int .i64 t773,.string t774]] ?_;(with_reducible refine (impl_ServerHear.calls k _ _ t763 t766 t767 t768 t769 t770 t771 t772 t773 t774 t784 t787 t788 false _ ?side1 ?side2 A5.out ?side3).mono ?_);(case side1=>refine (Kd.R_reads' (e:=44) (base:=w.heap.size) (ok:=fun k_=>((True∧k_≠gb776)∧some k_≠(.slice Ao96 t777.length co96:Value).ownBlock)) (n:=t763.length) (c:=co90) ?_).2.2;exact (by (with_reducible repeat (first|apply Kd.R_alloc|apply Kd.R_drewN|apply Kd.R_drew));exact (Kd.R_mono (rf3_ (g:=gb783) (Kd.R_types HO765.out BK783.out (by decide)) (fun _ hk=>hk.2) (.slice Ao96 t777.length co96) (.int .i64 t780) (.bool t781)) (fun _ h_=>h_.1))));(case side2=>exact (Kd.R_reads' HO765.out).2.1);(case side3=>exact Glob.below HG.out (bel_));rintro e w102 ⟨v785,rfl,ho0,hb⟩;refine ⟨_,rfl,?_⟩;have n0_:=a_ (Kd.R_elder' (by (with_reducible repeat (first|apply Kd.R_alloc|apply Kd.R_drewN|apply Kd.R_drew));exact (Kd.R_mono (rf3_ (g:=gb783) (Kd.R_types HO765.out BK783.out (by decide)) (fun _ hk=>hk.2) (.slice Ao96 t777.length co96) (.int .i64 t780) (.bool t781)) (fun _ h_=>h_.1))) (Kd.R_base ho0) hb);have n1_:=a_ (Kd.R_elder' (by (with_reducible repeat (first|apply Kd.R_alloc|apply Kd.R_drewN|apply Kd.R_drew));exact (Kd.R_mono (rf3_ (g:=gb783) (Kd.R_types HO779.out BK783.out (by decide)) (fun _ hk=>hk.2) (.slice Ao96 t777.length co96) (.int .i64 t780) (.bool t781)) (fun _ h_=>h_.1))) (Kd.R_base ho0) hb);have n2_:=a_ (Kd.R_lower (Kd.R_newB (Kd.R_new' (Kd.R_new' ho0 (Kd.R_lt (by (with_reducible repeat (first|apply Kd.R_alloc|apply Kd.R_drewN|apply Kd.R_drew));exact (Kd.R_mono (rf3_ (g:=gb783) (Kd.R_types HO765.out BK783.out (by decide)) (fun _ hk=>hk.2) (.slice Ao96 t777.length co96) (.int .i64 t780) (.bool t781)) (fun _ h_=>h_.1))))) (Kd.R_lt (by (with_reducible repeat (first|apply Kd.R_alloc|apply Kd.R_drewN|apply Kd.R_drew));exact (Kd.R_mono (rf3_ (g:=gb783) (Kd.R_types HO779.out BK783.out (by decide)) (fun _ hk=>hk.2) (.slice Ao96 t777.length co96) (.int .i64 t780) (.bool t781)) (fun _ h_=>h_.1))))) (g:=gb776) (o:=.cells #[.int .i64 t768,.int .i64 t769,.int .i64 t770,.int .i64 t771,.int .i64 t772,.int .i64 t773,.string t774] 44 (0,0)) (fp1_ NB776_783.out BK776.out)) (below_size (bel_)));have n3_:=a_ (blk_below (g:=gb775) (o:=.cells #[.slice Ao90 t763.length co90,.int .i64 t766,.bool t767] 25 (0,0)) (fp1_ NB775_783.out BK775.out) hb);have n4_:=a_ (blk_below (g:=gb776) (o:=.cells #[.int .i64 t768,.int .i64 t769,.int .i64 t770,.int .i64 t771,.int .i64 t772,.int .i64 t773,.string t774] 44 (0,0)) (fp1_ NB776_783.out BK776.out) hb);have n5_:=a_ (blk_below (g:=gb783) (o:=.cells #[.slice Ao96 t777.length co96,.int .i64 t780,.bool t781] 25 (0,0)) (k3p_ BK783.out) hb);have n6_:=a_ (bS_ (bel_) hb);clear HO765;clear HO779;clear BK775;clear BK776;clear BK783;clear HB;have HO765:=n0_;have HO779:=n1_;have HO786:=n2_;have BK775:=n3_;have BK776:=n4_;have BK783:=n5_;have HB:=n6_;clear n0_ n1_ n2_ n3_ n4_ n5_ n6_;(try clear hb ho0))|((with_reducible refine gD_ (N:=7) rfl ?_);refine bx_ 7 (#[.slice none 0 0,.int .i64 0,.bool false]) 25 ?_;intro gb790 hg w103 hbox hb;have n0_:=a_ (Kd.R_below (rp_ HO765.out) hb);have n1_:=a_ (Kd.R_below (rp_ HO779.out) hb);have n2_:=a_ (Kd.R_below (rp_ HO786.out) hb);have n3_:=a_ (blk_below (g:=gb775) (o:=.cells #[.slice Ao90 t763.length co90,.int .i64 t766,.bool t767] 25 (0,0)) (bp_ BK775.out) hb);have n4_:=a_ (blk_below (g:=gb776) (o:=.cells #[.int .i64 t768,.int .i64 t769,.int .i64 t770,.int .i64 t771,.int .i64 t772,.int .i64 t773,.string t774] 44 (0,0)) (bp_ BK776.out) hb);have n5_:=a_ (blk_below (g:=gb783) (o:=.cells #[.slice Ao96 t777.length co96,.int .i64 t780,.bool t781] 25 (0,0)) (bp_ BK783.out) hb);have n6_:=a_ (bS_ (bel_) hb);have n7_:=a_ (hbox);have n8_:=a_ ((by rw [hg];exact (below_size (bel_)):w.heap.size≤gb790));have n9_:=a_ ((by rw [hg];exact (below_size (bel_)):w.heap.size≤gb790));have n10_:=a_ ((by rw [hg];exact Nat.ne_of_lt (blk_lt (g:=gb775) (o:=.cells #[.slice Ao90 t763.length co90,.int .i64 t766,.bool t767] 25 (0,0)) (bp_ BK775.out)):gb775≠gb790));have n11_:=a_ ((by rw [hg];exact Nat.ne_of_gt (blk_lt (g:=gb775) (o:=.cells #[.slice Ao90 t763.length co90,.int .i64 t766,.bool t767] 25 (0,0)) (bp_ BK775.out)):gb790≠gb775));have n12_:=a_ ((by rw [hg];exact Nat.ne_of_lt (blk_lt (g:=gb776) (o:=.cells #[.int .i64 t768,.int .i64 t769,.int .i64 t770,.int .i64 t771,.int .i64 t772,.int .i64 t773,.string t774] 44 (0,0)) (bp_ BK776.out)):gb776≠gb790));have n13_:=a_ ((by rw [hg];exact Nat.ne_of_gt (blk_lt (g:=gb776) (o:=.cells #[.int .i64 t768,.int .i64 t769,.int .i64 t770,.int .i64 t771,.int .i64 t772,.int .i64 t773,.string t774] 44 (0,0)) (bp_ BK776.out)):gb790≠gb776));have n14_:=a_ ((by rw [hg];exact Nat.ne_of_lt (blk_lt (g:=gb783) (o:=.cells #[.slice Ao96 t777.length co96,.int .i64 t780,.bool t781] 25 (0,0)) (bp_ BK783.out)):gb783≠gb790));have n15_:=a_ ((by rw [hg];exact Nat.ne_of_gt (blk_lt (g:=gb783) (o:=.cells #[.slice Ao96 t777.length co96,.int .i64 t780,.bool t781] 25 (0,0)) (bp_ BK783.out)):gb790≠gb783));clear HO765;clear HO779;clear HO786;clear BK775;clear BK776;clear BK783;clear HB;have HO765:=n0_;have HO779:=n1_;have HO786:=n2_;have BK775:=n3_;have BK776:=n4_;have BK783:=n5_;have HB:=n6_;have BK790:=n7_;have GW790:=n8_;have GE790:=n9_;have NB775_790:=n10_;have NB790_775:=n11_;have NB776_790:=n12_;have NB790_776:=n13_;have NB783_790:=n14_;have NB790_783:=n15_;clear n0_ n1_ n2_ n3_ n4_ n5_ n6_ n7_ n8_ n9_ n10_ n11_ n12_ n13_ n14_ n15_;clear hb hbox hg;obtain ⟨Ao104,co104,eo104⟩:=Kd.R_slice HO786.out;subst eo104;have hnb105:=NB790_775.out;have hnc105:=NB775_790.out;have hnb106:=NB790_776.out;have hnc106:=NB776_790.out;have hnb107:=NB790_783.out;have hnc107:=NB783_790.out;have Z108_0:=cz_ BK790.out 0 (.slice none 0 0);have Z108_1:=cz_ BK790.out 1 (.int .i64 0);have Z108_2:=cz_ BK790.out 2 (.bool false);have Y108_0:=bF_ BK790.out 0;have Y108_1:=bF_ BK790.out 1;have Y108_2:=bF_ BK790.out 2;have Z109_0:=cz_ BK783.out 0 (.slice Ao96 t777.length co96);have Z109_1:=cz_ BK783.out 1 (.int .i64 t780);have Z109_2:=cz_ BK783.out 2 (.bool t781);have Y109_0:=bF_ BK783.out 0;have Y109_1:=bF_ BK783.out 1;have Y109_2:=bF_ BK783.out 2)|(go_at_call 29;(with_reducible refine (laws_lpServer.calls k _ _ t784 t787 t788 _ _ t777 t780 t781 true _ ?side1 ?side2 ?side3 ?side4 A7.out).mono ?_);(case side1=>refine (Kd.R_reads' (e:=44) (base:=w.heap.size) (ok:=fun k_=>(((True∧some k_≠(.slice Ao90 t763.length co90:Value).ownBlock)∧some k_≠(.slice Ao96 t777.length co96:Value).ownBlock)∧k_≠gb776)) (n:=t784.length) (c:=co104) ?_).2.2;exact (by (with_reducible repeat (first|apply Kd.R_alloc|apply Kd.R_drewN|apply Kd.R_drew));exact (Kd.R_mono (rf3_ (g:=gb790) (Kd.R_types HO786.out BK790.out (by decide)) (fun _ hk=>hk.2) (.slice Ao104 t784.length co104) (.int .i64 t787) (.bool t788)) (fun _ h_=>h_.1))));(case side2=>exact (Kd.R_reads' HO786.out).2.1);(case side3=>refine (Kd.R_reads' (e:=44) (base:=w.heap.size) (ok:=fun k_=>(((True∧some k_≠(.slice Ao90 t763.length co90:Value).ownBlock)∧k_≠gb776)∧some k_≠(.slice Ao104 t784.length co104:Value).ownBlock)) (n:=t777.length) (c:=co96) ?_).2.2;exact (by (with_reducible repeat (first|apply Kd.R_alloc|apply Kd.R_drewN|apply Kd.R_drew));exact (Kd.R_mono (rf3_ (g:=gb790) (Kd.R_types HO779.out BK790.out (by decide)) (fun _ hk=>hk.2) (.slice Ao104 t784.length co104) (.int .i64 t787) (.bool t788)) (fun _ h_=>h_.1))));(case side4=>exact (Kd.R_reads' HO779.out).2.1);rintro e w110 ⟨rfl,hb⟩;have n0_:=a_ (Kd.R_below (by (with_reducible repeat (first|apply Kd.R_alloc|apply Kd.R_drewN|apply Kd.R_drew));exact (Kd.R_mono (rf3_ (g:=gb790) (Kd.R_types HO765.out BK790.out (by decide)) (fun _ hk=>hk.2) (.slice Ao104 t784.length co104) (.int .i64 t787) (.bool t788)) (fun _ h_=>h_.1))) hb);have n1_:=a_ (Kd.R_below (by (with_reducible repeat (first|apply Kd.R_alloc|apply Kd.R_drewN|apply Kd.R_drew));exact (Kd.R_mono (rf3_ (g:=gb790) (Kd.R_types HO779.out BK790.out (by decide)) (fun _ hk=>hk.2) (.slice Ao104 t784.length co104) (.int .i64 t787) (.bool t788)) (fun _ h_=>h_.1))) hb);have n2_:=a_ (Kd.R_below (by (with_reducible repeat (first|apply Kd.R_alloc|apply Kd.R_drewN|apply Kd.R_drew));exact (Kd.R_mono (rf3_ (g:=gb790) (Kd.R_types HO786.out BK790.out (by decide)) (fun _ hk=>hk.2) (.slice Ao104 t784.length co104) (.int .i64 t787) (.bool t788)) (fun _ h_=>h_.1))) hb);have n3_:=a_ (blk_below (g:=gb775) (o:=.cells #[.slice Ao90 t763.length co90,.int .i64 t766,.bool t767] 25 (0,0)) (fp1_ NB775_790.out BK775.out) hb);have n4_:=a_ (blk_below (g:=gb776) (o:=.cells #[.int .i64 t768,.int .i64 t769,.int .i64 t770,.int .i64 t771,.int .i64 t772,.int .i64 t773,.string t774] 44 (0,0)) (fp1_ NB776_790.out BK776.out) hb);have n5_:=a_ (blk_below (g:=gb783) (o:=.cells #[.slice Ao96 t777.length co96,.int .i64 t780,.bool t781] 25 (0,0)) (fp1_ NB783_790.out BK783.out) hb);have n6_:=a_ (blk_below (g:=gb790) (o:=.cells #[.slice Ao104 t784.length co104,.int .i64 t787,.bool t788] 25 (0,0)) (k3p_ BK790.out) hb);have n7_:=a_ (bS_ (bel_) hb);clear HO765;clear HO779;clear HO786;clear BK775;clear BK776;clear BK783;clear BK790;clear HB;have HO765:=n0_;have HO779:=n1_;have HO786:=n2_;have BK775:=n3_;have BK776:=n4_;have BK783:=n5_;have BK790:=n6_;have HB:=n7_;clear n0_ n1_ n2_ n3_ n4_ n5_ n6_ n7_;(try clear hb);have Z111_0:=cz_ BK790.out 0 (.slice Ao104 t784.length co104);have Z111_1:=cz_ BK790.out 1 (.int .i64 t787);have Z111_2:=cz_ BK790.out 2 (.bool t788);have Y111_0:=bF_ BK790.out 0;have Y111_1:=bF_ BK790.out 1;have Y111_2:=bF_ BK790.out 2;have Z112_0:=cz_ BK783.out 0 (.slice Ao96 t777.length co96);have Z112_1:=cz_ BK783.out 1 (.int .i64 t780);have Z112_2:=cz_ BK783.out 2 (.bool t781);have Y112_0:=bF_ BK783.out 0;have Y112_1:=bF_ BK783.out 1;have Y112_2:=bF_ BK783.out 2)|(go_at_call 29;(with_reducible refine (laws_lpServer.calls k _ _ t784 t787 t788 _ _ t777 t780 t781 t792 _ ?side1 ?side2 ?side3 ?side4 A86.out).mono ?_);(case side1=>exact cx_ (Kd.R_reads' HO786.out).2.2);(case side2=>exact (Kd.R_reads' HO786.out).2.1);(case side3=>exact cx_ (Kd.R_reads' HO779.out).2.2);(case side4=>exact (Kd.R_reads' HO779.out).2.1);rintro e w113 ⟨rfl,hb⟩;replace HO765:=a_ (Kd.R_below (rp_ HO765.out) hb);replace HO779:=a_ (Kd.R_below (rp_ HO779.out) hb);replace HO786:=a_ (Kd.R_below (rp_ HO786.out) hb);replace HB:=a_ (bS_ (bel_) hb);replace BK775:=a_ (blk_below (g:=gb775) (o:=.cells #[.slice Ao90 t763.length co90,.int .i64 t766,.bool t767] 25 (0,0)) (bp_ BK775.out) hb);replace BK776:=a_ (blk_below (g:=gb776) (o:=.cells #[.int .i64 t768,.int .i64 t769,.int .i64 t770,.int .i64 t771,.int .i64 t772,.int .i64 t773,.string t774] 44 (0,0)) (bp_ BK776.out) hb);replace BK783:=a_ (blk_below (g:=gb783) (o:=.cells #[.slice Ao96 t777.length co96,.int .i64 t780,.bool t781] 25 (0,0)) (bp_ BK783.out) hb);replace BK790:=a_ (blk_below (g:=gb790) (o:=.cells #[.slice Ao104 t784.length co104,.int .i64 t787,.bool t788] 25 (0,0)) (bp_ BK790.out) hb);(try clear hb)))
      go_ret
      exact ⟨fi_,bel_⟩
     ·rw [if_neg c85] at H
      exact absurd H (by simp)
   ·replace c8:=Bool.eq_false_iff.mpr c8
    subst c8
    have H1:(none)=some r:=by rw [if_neg (show ¬ (false=true) by decide)] at H;exact H
    clear H
    have H:=H1
    clear H1
    exact absurd H (by simp)

def laws_FnHearAgain.Pure:Prop:=∀ (l0:List Int),l0.length≤maxLen→l0.length * 1≤140737488351232→(∀ x∈l0,(Lit.int .u8 x).wf=true)→∃ k,laws_FnHearAgain.f k l0=some true
theorem laws_FnHearAgain.walk (P:laws_FnHearAgain.Pure) (a0:Option Addr) (len0 cap0:Nat) (z0:List Int) (w:World) (w0:(a0=none∧len0=0∧cap0=0∧z0=[])∨∃ x,a0=some x∧len0≤cap0∧cap0≤maxLen∧z0.length=cap0∧(∀ i,i < z0.length→w.cell? (x.add i)=some (.int .u8 (z0.getD i 0)))∧∀ n∈z0,(Lit.int .u8 n).wf=true) (y0:len0 * 1≤140737488351232) (hG:Glob w) :
  Calls Tryd.prog 7 #[.slice a0 len0 cap0] w fun e w'=>e=.returned (.bool true)∧Below w.heap.size w w':=by
 obtain ⟨l0,rfl,hr0,hm0,hw0,hc0⟩:=ReadsInt.ofRowC w0
 obtain ⟨k,h⟩:=P l0 hm0 y0 hw0
 refine (laws_FnHearAgain.calls k _ _ l0 true w (Kd.C_of_reads (d:=(0:Int)) (h1:=fun _=>rfl) hr0) hc0 h hG).mono ?_
 rintro e w' ⟨rfl,hd⟩
 exact ⟨rfl,hd⟩
end Go.Proofs.YtdpklbomhdpimaaDoor.P
