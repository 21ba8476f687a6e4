/- The contracts of the Go functions against the pure functions, printed by program. Conditions: each says them. -/
import Derived.Test.YtngpabaocflipaaGreatC3
set_option linter.unusedVariables false
set_option linter.unusedSimpArgs false
set_option maxRecDepth 100000
set_option maxHeartbeats 4000000
namespace Go.Gx.Px
open Go.Proofs Go.RowKit
open K9
theorem c_M_AreFacts {w0:World} (a1:(List Int)) (u1:Value) (g1:RO [] w0 u1 a1) (a2:(List (Int × (List Int)))) (u2:Value) (g2:RO [] w0 u2 a2) (rr:Bool) (hF:M.AreFacts a1 a2=some rr) :
 Calls Tryz.prog 99 [u1,u2].toArray w0 fun e w'=>∃v,e=.returned v∧Res w0 rr v w':=by
 refine Ax Tryz.func99 z z ?_
 have hC0:=A5 w0
 unfold M.AreFacts at hF
 refine Ac<|Ad z z<|Ab<|A6<|Ac<|Ae z z<|Bc Ai g2 z z<|Ae z z<|Ab<|be hF fun r1 hr1 hF=>Bi (fun l w=>.inl ()=r1∧l=[(0,u1),(1,u2)]∧Ctx [] w0 w []) ?_ ?_
 ·refine AJ<|wS (l':=[(0,u1),(1,u2),(7,u2),(8,(I (List.length a2:Int))),(9,(I 0))]) ⟨z,z,z,z,z,Aj⟩<|B2 (fun k l w=>∃x1:Int,l=[(0,u1),(1,u2),(7,u2),(8,(I (List.length a2:Int))),(9,(I x1))]∧Ctx [] w0 w []∧M.AreFacts_l1 a2 a1 k x1=some r1) FUEL ⟨0,z,hC0,hr1⟩<|?_
  clear hr1
  rintro k1 _ w1 ⟨x1,rfl,hC1,hL1⟩
  cases k1 with
  | zero=>rw [M.AreFacts_l1] at hL1; cases hL1
  | succ k1 =>
   rw [M.AreFacts_l1] at hL1
   refine Ac<|Bv z z z<|Ab<|A6<|AE z (fun hc1=>?_) (fun hc1=>?_)
   ·replace hL1:=A7 hL1 hc1
    refine AF<|Ap<|A6<|AJ<|Ac<|Ae z z<|be hL1 fun x2 hx1 hL1=>AH Ai ty88 g2 hx1 z z z fun b1 o1 h1=>AI ty88 h1 hC1.keep z z fun v1 h2=>?_
    obtain ⟨v2,rfl,h3⟩:=BD h2
    refine Bw hC1 zero88 z z fun b2 w2 hC2 hB2 hN1=>Ad z z<|AA (cs':=[(I x2.1),v2]) (new:=[(I x2.1),v2]) hC2 0 z z (fac z<|fac (B0 h3)<|fa0) z AP z z fun w3 hC3 hKp1=>?_
    try dsimp only [List.set] at hC3
    have hk1:=AO (Ao hB2) hN1 hKp1
    refine Ab<|be hL1 fun r2 hr2 hL1=>BI (fun l w=>∃x3:Bool,x3=r2∧l=[(0,u1),(1,u2),(7,u2),(8,(I (List.length a2:Int))),(9,(I x1)),(31,(.bool x3))]∧Below w3.heap.size w3 w∧Ctx [] w0 w []) ?_ ?_
    ·refine W_drawn 18 z hmix fun w5 hB4=>have hC5:=hC3.grow hB4;tm 0 z z z<|oe 1 z<|Au [(I x2.1),v2] hC5 0 z z z Bl AP z z<|Ab<|be hr2 fun x4 hr3 hr2=>oe 2 z<|cb Tryz.call137 z z (c_M_IsFact a1 u1 (g1.now hC5.keep) (x2.1,x2.2) v2 (h3.now hC5.keep) x4 hr3) fun w6 hB5=>have hC6:=hC5.grow hB5;Ab<|tk 3 z z (Cl z)<|B3 z z<|Ab<|tm 4 z z z<|BC (fun hc2=>?_) (fun hc2=>?_)
     ·replace hr2:=A7 hr2 hc2
      refine sk 5 z z z z z<|sk 6 z z z z z<|sk 7 z z z z z<|sk 8 z z z z z<|sk 9 z z z z z<|sk 10 z z z z z<|sk 11 z z z z z<|sk 12 z z z z z<|sk 13 z z z z z<|sk 14 z z z z z<|sk 15 z z z z z<|sk 16 z z z z z<|tp 17 z z z z<|dn<|?_
      obtain rfl:=Aa hr2
      have hC7:=hC6.h0
      exact Am (l':=[(0,u1),(1,u2),(7,u2),(8,(I (List.length a2:Int))),(9,(I x1)),(31,(.bool true))]) ⟨z,z,z,z,z,z,Aj⟩<|⟨true,z,z,((Ao hB4).then hB5).below,hC7⟩
     replace hr2:=A8 hr2 hc2
     refine tn 5 z z z z z<|tg 6 z z z z (Dd z z)<|Ah z z<|Ca z z z<|Ab<|tn 7 z z z z z<|BC (fun hc3=>?_) (fun hc3=>?_)
     ·replace hr2:=A7 hr2 hc3
      refine tn 8 z z z z z<|tn 9 z z z z z<|tg 10 z z z z (Ct z z)<|Ah z z<|BR z z z<|Ab<|be hr2 fun x5 hx2 hr2=>tg 11 z z z z (BG Ai ty88 g2 hx2 z z)<|Ah z z<|AH Ai ty88 g2 hx2 z z z fun b3 o2 h4=>Ab<|wAS (l':=[(0,u1),(1,u2),(5,(I x1)),(6,(ptr b2 0)),(7,u2),(8,(I (List.length a2:Int))),(9,(I x1)),(10,(.bool (decide (x1 < (List.length a2:Int))))),(11,(I x1)),(12,(ptr b1 o1)),(13,(.agg #[(I x2.1),v2])),(14,u1),(15,(.agg #[(I x2.1),v2])),(16,(.bool x4)),(17,(.bool (!x4))),(18,(.bool false)),(19,(I x1)),(20,(.bool (decide (0 < x1)))),(21,(.bool true)),(22,u2),(23,(I x1)),(24,(I (w64 (x1 - 1)))),(25,(ptr b3 o2))]) ⟨z,z,z,z,z,z,z,z,z,z,z,z,z,z,z,z,z,z,z,z,z,z,z,Aj⟩<|Bq [⟨12,[],fun vs=>Ce [] w0 x5,[]⟩,⟨13,[],fun vs=>Ba (.agg #[(I x2.1),v2]),[]⟩] [[],[]] 4 z (by kernel_rfl) (by kernel_rfl) z ?_ ?_
      ·refine An z ?_ ?_
       ·intro w7 hB6
        refine At<|⟨_,z,?_⟩
        exact Ah z z<|AI ty88 h4 (hC6.keep.then hB6) z z fun v5 h7=>Ab<|Aw (Al _ _) z z ⟨z,h7⟩
       refine An z ?_ ?_
       ·intro w7 hB6
        refine At<|⟨_,z,?_⟩
        exact Ah z z<|Au [(I x2.1),v2] (hC6.grow hB6) 0 z z z Bl AP z z<|Ab<|Aw (Al _ _) z z ⟨z,z⟩
       exact Bj
      intro w9 hB7
      refine Ar z z z ?_
      rintro v5 _ ⟨rfl,h7⟩
      obtain ⟨v4,rfl,h6⟩:=BD h7
      refine Ar z z z ?_
      rintro _ _ ⟨rfl,rfl⟩
      refine Bt fun hn1 hb1=>have hC8:=hC6.grow hB7;be hr2 fun x6 hr4 hr2=>oe 14 z<|Ah z z<|ci CN z z (c_M_CompareFacts x5 v4 (h6.now hC8.keep) (x2.1,x2.2) v2 (h3.now hC8.keep) x6 hr4) fun w10 hB8=>have hC9:=hC8.grow hB8;Ab<|tg 15 z z z z (fl_geq z z)<|Ah z z<|Cf z z z<|Ab<|tg 16 z z z z (Cg z z)<|Ah z z<|AW z z z<|Ab<|tq 17 z z z z<|dn<|?_
      obtain rfl:=Aa hr2
      have hC10:=hC9.h0
      exact Am (l':=[(0,u1),(1,u2),(7,u2),(8,(I (List.length a2:Int))),(9,(I x1)),(31,(.bool (decide (0 ≤ x6))))]) ⟨z,z,z,z,z,z,Aj⟩<|⟨(decide (0 ≤ x6)),z,z,((((Ao hB4).then hB5).then hB7).then hB8).below,hC10⟩
     replace hr2:=A8 hr2 hc3
     refine sk 8 z z z z z<|sk 9 z z z z z<|sk 10 z z z z z<|sk 11 z z z z z<|sk 12 z z z z z<|sk 13 z z z z z<|sk 14 z z z z z<|sk 15 z z z z z<|tg 16 z z z z (Ci z z)<|Ah z z<|AZ z z z<|Ab<|tq 17 z z z z<|dn<|?_
     obtain rfl:=Aa hr2
     have hC11:=hC6.h0
     exact Am (l':=[(0,u1),(1,u2),(7,u2),(8,(I (List.length a2:Int))),(9,(I x1)),(31,(.bool false))]) ⟨z,z,z,z,z,z,Aj⟩<|⟨false,z,z,((Ao hB4).then hB5).below,hC11⟩
    rintro _ w4 ⟨x3,rfl,rfl,hB3,hC4⟩
    try dsimp only at hL1
    refine AE z (fun hc4=>?_) (fun hc4=>?_)
    ·replace hL1:=A7 hL1 hc4
     refine Ac<|Ad z z<|Ab<|AL<|Bd<|Av<|Av<|Bd<|Av<|Av<|?_
     obtain rfl:=Aa hL1
     dsimp only at hF
     obtain rfl:=Aa hF
     exact A2 z z<|⟨_,z,AN hC4 _⟩
    replace hL1:=A8 hL1 hc4
    exact AF<|AU<|Ap<|Bg<|Bn z z z<|Ae z z<|Ab<|Am (l':=[(0,u1),(1,u2),(7,u2),(8,(I (List.length a2:Int))),(9,(I (w64 (x1+1))))]) ⟨z,z,z,z,z,Aj⟩<|⟨k1,A3 _,w64 (x1+1),z,hC4,hL1⟩
   replace hL1:=A8 hL1 hc1
   refine B1 (A9 (A9 (Bk ?_)))
   obtain rfl:=Aa hL1
   exact Am (l':=[(0,u1),(1,u2)]) ⟨z,z,Aj⟩<|⟨z,z,hC1⟩
 rintro l3 _ w11 hs3 ⟨rfl,rfl,hC12⟩
 try dsimp only at hF
 refine AY hs3 ?_
 clear hs3
 refine be hF fun r3 hr5 hF=>BI (fun l w=>∃x7:Bool,x7=r3∧l=[(4,(.bool x7))]∧Below w11.heap.size w11 w∧Ctx [] w0 w []) ?_ ?_
 ·refine Bg<|Ae z z<|be hr5 fun x8 hr6 hr5=>cb CL z z (c_M_IsSchema a1 u1 (g1.now hC12.keep) x8 hr6) fun w13 hB11=>have hC14:=hC12.grow hB11;Ae z z<|Bz (fun hc5=>?_) (fun hc5=>?_)
  ·replace hr5:=A7 hr5 hc5
   refine Ah z z<|Ae z z<|Ah z z<|Bc Ai g2 z z<|Ah z z<|Cp z z z<|AW z z z<|Ad z z<|Ab<|?_
   obtain rfl:=Aa hr5
   exact Am (l':=[(4,(.bool (decide ((List.length a2:Int) ≤ 24))))]) ⟨z,Aj⟩<|⟨(decide ((List.length a2:Int) ≤ 24)),z,z,(Ao hB11).below,hC14⟩
  replace hr5:=A8 hr5 hc5
  refine gs z z z z<|gs z z z z<|gs z z z z<|AZ z z z<|Ad z z<|Ab<|?_
  obtain rfl:=Aa hr5
  exact Am (l':=[(4,(.bool false))]) ⟨z,Aj⟩<|⟨false,z,z,(Ao hB11).below,hC14⟩
 rintro _ w12 ⟨x7,rfl,rfl,hB10,hC13⟩
 try dsimp only at hF
 refine AL ?_
 obtain rfl:=Aa hF
 exact A2 z z<|⟨_,z,AN hC13 _⟩
theorem c_M_IsTold {w0:World} (a1:(List Int)) (u1:Value) (g1:RO [] w0 u1 a1) (a2:(List (Int × (List Int) × Int × Int × Int))) (u2:Value) (g2:RO [] w0 u2 a2) (a3:((Int × (List Int)) × (List (Int × (List Int))))) (u3:Value) (g3:RO [] w0 u3 a3.1.2) (u4:Value) (g4:RO [] w0 u4 a3.2) (rr:Bool) (hF:M.IsTold a1 a2 a3=some rr) :
 Calls Tryz.prog 31 [u1,u2,(.agg #[(I a3.1.1),u3,u4])].toArray w0 fun e w'=>∃v,e=.returned v∧Res w0 rr v w':=by
 refine Ax Tryz.func31 z z ?_
 have hC0:=A5 w0
 unfold M.IsTold at hF
 refine Ac<|Br (cs:=[(I a3.1.1),u3,u4]) hC0 z z z fun b1 w1 hC1 hB1 hN1=>Ad z z<|Ab<|be hF fun r1 hr1 hF=>BI (fun l w=>∃x1:Bool,x1=r1∧l=[(6,(.bool x1))]∧Below w1.heap.size w1 w∧Ctx [] w0 w []) ?_ ?_
 ·refine Bg<|Ae z z<|Ae z z<|fd AK AV z z z z<|Au [(I a3.1.1),u3] hC1 0 z z z Bu AV z z<|be hr1 fun x2 hr2 hr1=>cb Tryz.call98 z z (c_M_IsAccess a1 u1 (g1.now hC1.keep) a2 u2 (g2.now hC1.keep) (a3.1.1,a3.1.2) u3 (g3.now hC1.keep) x2 hr2) fun w3 hB3=>have hC3:=hC1.grow hB3;Ae z z<|Bz (fun hc1=>?_) (fun hc1=>?_)
  ·replace hr1:=A7 hr1 hc1
   refine Ah z z<|Ae z z<|Ah z z<|fd AK Bp z z z z<|Ah z z<|Aq hC3 0 z z BA z z<|be hr1 fun x3 hr3 hr1=>Ah z z<|cb Tryz.call99 z z (c_M_AreFacts a1 u1 (g1.now hC3.keep) a3.2 u4 (g4.now hC3.keep) x3 hr3) fun w4 hB4=>have hC4:=hC3.grow hB4;AW z z z<|Ad z z<|Ab<|?_
   obtain rfl:=Aa hr1
   have hC5:=hC4.h0
   exact Am (l':=[(6,(.bool x3))]) ⟨z,Aj⟩<|⟨x3,z,z,((Ao hB3).then hB4).below,hC5⟩
  replace hr1:=A8 hr1 hc1
  refine gs z z z z<|gs z z z z<|gs z z z z<|gs z z z z<|AZ z z z<|Ad z z<|Ab<|?_
  obtain rfl:=Aa hr1
  have hC6:=hC3.h0
  exact Am (l':=[(6,(.bool false))]) ⟨z,Aj⟩<|⟨false,z,z,(Ao hB3).below,hC6⟩
 rintro _ w2 ⟨x1,rfl,rfl,hB2,hC2⟩
 try dsimp only at hF
 refine AL ?_
 obtain rfl:=Aa hF
 exact A2 z z<|⟨_,z,AN hC2 _⟩
theorem c_Slices_Clone_Lint_int {w0:World} (a1:(List Int)) (u1:Value) (g1:RO [] w0 u1 a1) (rr:(List Int)) (hF:Slices.Clone_Lint_int a1=some rr) :
 Calls Tryz.prog 181 [u1].toArray w0 fun e w'=>∃v,e=.returned v∧Res w0 rr v w':=by
 refine Ax Tryz.func181 z z ?_
 have hC0:=A5 w0
 unfold Slices.Clone_Lint_int at hF
 refine Ac<|Ad z z<|Ab<|A6<|Ac<|Ae z z<|WL_isnil Ak g1 z z fun bn1 hb1=>Ab<|?_
 rcases btf bn1 with hc1 | hc1
 ·have ha:=hb1 hc1
  subst hc1
  subst ha
  replace hF:(some ([]):Option (List Int))=some rr:=by simpa [app] using hF
  refine C0 z<|Ac<|Ad z z<|Ab<|AL<|Av<|?_
  obtain rfl:=Aa hF
  exact A2 z z<|⟨_,z,nil_res hC0⟩
 subst hc1
 refine C1 z<|AF<|Ap<|Ac<|AC (vs:=[]) hC0 Ak ty3 z z z z (by simp) z z fun b1 w1 hC1 hB1=>?_
 have hC2:=hC1.row0 (α:=Int)
 have hC3:=hC2.front 1 z
 dsimp only [List.eraseIdx,List.cons_append,List.nil_append,List.append_nil] at hC3
 have hC4:Ctx [] w0 w1 (Af (.slice (some ⟨b1,0,none⟩) 0 0) (([]:List Int):List Int)::[]):=hC3.rowOwn (by simp [maxLen])
 refine Ae z z<|be hF fun x1 hx1 hF=>BF (α:=Int) hC4 0 z g1 hC4.keep Ak ty3 z hx1 z z z fun v1 w2 hC5=>?_
 try dsimp only [List.set] at hC5
 refine Ad z z<|Ab<|AL<|?_
 obtain rfl:=Aa hF
 exact A2 z z<|⟨_,z,BY hC5 0 z⟩
theorem c_M_copyFact {w0:World} (a1:(Int × (List Int))) (u1:Value) (g1:RO [] w0 u1 a1.2) (rr:(Int × (List Int))) (hF:M.copyFact a1=some rr) :
 Calls Tryz.prog 130 [(.agg #[(I a1.1),u1])].toArray w0 fun e w'=>∃v,e=.returned v∧Res w0 rr v w':=by
 refine Ax Tryz.func130 z z ?_
 have hC0:=A5 w0
 unfold M.copyFact at hF
 refine Ac<|Br (cs:=[(I a1.1),u1]) hC0 z z z fun b1 w1 hC1 hB1 hN1=>Bw hC1 zero88 z z fun b2 w2 hC2 hB2 hN2=>Ab<|A6<|W_drawn 7 z hmix fun w3 hB3=>have hC3:=hC2.grow hB3;tf 0 A4 Ay z z z z z<|tf 2 A4 Az z z z z z<|be hF fun x1 hr1 hF=>wAS (l':=[(0,(.agg #[(I a1.1),u1])),(1,(ptr b1 0)),(2,(ptr b2 0)),(3,(ptr b1 0)),(5,(ptr b1 1))]) ⟨z,z,z,z,z,Aj⟩<|Bq [⟨1,[],fun vs=>Ba (I a1.1),[]⟩,⟨3,[],fun vs=>Ba u1,[]⟩,⟨4,[],fun vs=>CU x1,[]⟩] [[],[],[3]] 2 z (by kernel_rfl) (by kernel_rfl) z ?_ ?_
 ·refine An z ?_ ?_
  ·intro w5 hB5
   refine At<|⟨_,z,?_⟩
   exact Aq (hC3.grow hB5) 1 z z AR z z<|Ab<|Aw (Al _ _) z z ⟨z,z⟩
  refine An z ?_ ?_
  ·intro w5 hB5
   refine At<|⟨_,z,?_⟩
   exact Aq (hC3.grow hB5) 1 z z AM z z<|Ab<|Aw (Al _ _) z z ⟨z,z⟩
  refine An z ?_ ?_
  ·intro w5 hB5
   refine AD z z z ?_
   rintro _ _ ⟨rfl,rfl⟩ _
   refine At<|⟨_,z,?_⟩
   refine AG Tryz.call181 z z (c_Slices_Clone_Lint_int a1.2 u1 (g1.now (hC3.keep.then hB5)) x1 hr1) ?_
   rintro v1 w4 ⟨hB4,F1,hv1,hn1,hb1⟩
   exact Ab<|Db hB4 z z hv1 hn1 hb1 (Val.inh hv1)
  exact Bj
 intro w6 hB6
 refine Ar z z z ?_
 rintro _ _ ⟨rfl,rfl⟩
 refine Ar z z z ?_
 rintro _ _ ⟨rfl,rfl⟩
 refine Ar z z z fun v1 F1 hv1=>Bt fun hn2 hb2=>?_
 have hC4:=hC3.pushL hB6 (Bs:=[Af v1 (x1:(List Int))]) (Fs:=[F1]) ⟨F1,_,z,hv1,z⟩ (by simpa using hn2) (fun b h=>(hb2 b (by simpa using h)).1)
 refine tk 5 z z (Cd (vs:=[(0,(I a1.1)),(1,v1)]) z z (built88_0_1 z (B7 (hC4.ro 0 z))))<|BH (vs:=[(0,(I a1.1)),(1,v1)]) z z z (built88_0_1 z (B7 (hC4.ro 0 z)))<|Ab<|oe 6 z<|AA (cs':=[(I a1.1),v1]) (new:=[(I a1.1),v1]) hC4 1 z z (fac z<|fac (B0 (hC4.ro 0 z))<|fa0) z AP z z fun w7 hC5 hKp1=>?_
 try dsimp only [List.set] at hC5
 have hk1:=AO ((((Ao hB1).then hB2).then hB3).then hB6) (AS (Ao hB1).size hN2) hKp1
 have hk2:=AO (((Ao hB2).then hB3).then hB6) hN2 hKp1
 refine Ab<|dn<|Ap<|AL<|?_
 obtain rfl:=Aa hF
 refine Cq z (rv_cell_agg (cs':=[(I a1.1),v1]) hC5 (i:=1) z z z Bl AP z) ?_
 have hC6:=Cc a1.1 v1 x1 hC5
 exact ⟨_,z,BY hC6 0 z⟩
theorem c_M_copyFacts {w0:World} (a1:(List (Int × (List Int)))) (u1:Value) (g1:RO [] w0 u1 a1) (rr:(List (Int × (List Int)))) (hF:M.copyFacts a1=some rr) :
 Calls Tryz.prog 145 [u1].toArray w0 fun e w'=>∃v,e=.returned v∧Res w0 rr v w':=by
 refine Ax Tryz.func145 z z ?_
 have hC0:=A5 w0
 unfold M.copyFacts at hF
 refine Ac<|Ad z z<|Ab<|Ac<|AC (vs:=[]) hC0 Ai ty88 z z z z (by simp) z z fun b1 w1 hC1 hB1=>?_
 have hC2:=hC1.row0 (α:=(Int × (List Int)))
 have hC3:=hC2.front 1 z
 dsimp only [List.eraseIdx,List.cons_append,List.nil_append,List.append_nil] at hC3
 have hC4:Ctx [] w0 w1 (Af (.slice (some ⟨b1,0,none⟩) 0 0) (([]:List (Int × (List Int))):List (Int × (List Int)))::[]):=hC3.rowOwn (by simp [maxLen])
 refine Ad z z<|Ab<|A6<|Ac<|Ae z z<|Bc Ai g1 z z<|Ae z z<|Ab<|be hF fun r1 hr1 hF=>Bi (fun l w=>∃v2:Value,∃x3:(List (Int × (List Int))),x3=r1∧l=[(3,v2)]∧Ctx [] w0 w [Af v2 (x3:(List (Int × (List Int))))]) ?_ ?_
 ·refine AJ<|wS (l':=[(3,(.slice (some ⟨b1,0,none⟩) 0 0)),(7,u1),(8,(I (List.length a1:Int))),(9,(I 0))]) ⟨z,z,z,z,Aj⟩<|B2 (fun k l w=>∃v1:Value,∃x1:(List (Int × (List Int))),∃x2:Int,l=[(3,v1),(7,u1),(8,(I (List.length a1:Int))),(9,(I x2))]∧Ctx [] w0 w [Af v1 (x1:(List (Int × (List Int))))]∧M.copyFacts_l1 a1 k x1 x2=some r1) FUEL ⟨(.slice (some ⟨b1,0,none⟩) 0 0),([]:List (Int × (List Int))),0,z,hC4,hr1⟩<|?_
  clear hr1
  rintro k1 _ w2 ⟨v1,x1,x2,rfl,hC5,hL1⟩
  cases k1 with
  | zero=>rw [M.copyFacts_l1] at hL1; cases hL1
  | succ k1 =>
   rw [M.copyFacts_l1] at hL1
   refine Ac<|Bv z z z<|Ab<|A6<|AE z (fun hc1=>?_) (fun hc1=>?_)
   ·replace hL1:=A7 hL1 hc1
    refine AF<|Ap<|A6<|AJ<|Ac<|be hL1 fun x4 hx1 hL1=>AH Ai ty88 g1 hx1 z z z fun b2 o1 h1=>AI ty88 h1 hC5.keep z z fun v3 h2=>?_
    obtain ⟨v4,rfl,h3⟩:=BD h2
    refine Bw hC5 zero88 z z fun b3 w3 hC6 hB3 hN1=>AA (cs':=[(I x4.1),v4]) (new:=[(I x4.1),v4]) hC6 0 z z (fac z<|fac (B0 h3)<|fa0) z AP z z fun w4 hC7 hKp1=>?_
    try dsimp only [List.set] at hC7
    have hk1:=AO (Ao hB3) hN1 hKp1
    refine Ab<|Bg<|Ae z z<|Au [(I x4.1),v4] hC7 0 z z z Bl AP z z<|be hL1 fun x5 hr2 hL1=>AG Tryz.call130 z z (c_M_copyFact (x4.1,x4.2) v4 (h3.now hC7.keep) x5 hr2)<|?_
    rintro v5 w5 ⟨hB4,F1,hv1,hn1,hb1⟩
    have hC8:=hC7.push hB4 (A:=Af v5 x5) hv1 hn1 hb1
    obtain ⟨v6,rfl,hC9⟩:=st88_own hC8
    refine AC (vs:=[(.agg #[(I x5.1),v6])]) hC9 Ai ty88 z z z z (fac z<|fa0) z z (fun b4 w6 hC10 hB5=>?_)
    have hC11:=hC10.row0 (α:=(Int × (List Int)))
    have hC13:=hC11.f2
    have hC12:=Cc x5.1 v6 x5.2 hC13
    have hC14:=hC12.row1
    have hC15:=hC14.front 1 z
    dsimp only [List.eraseIdx,List.cons_append,List.nil_append,List.append_nil] at hC15
    have hC16:Ctx [] w0 w6 (Af (.slice (some ⟨b4,0,none⟩) 1 1) ([(x5.1,x5.2)]:List (Int × (List Int)))::[Ag b3 [(I x4.1),v4],Af v1 (x1:(List (Int × (List Int))))]):=hC15.rowOwn (by simp [maxLen])
    refine be hL1 fun x6 hx2 hL1=>By hC16 1 z Ai ty88 z hx2 z z z fun v7 w7 hC17=>?_
    try dsimp only [List.set] at hC17
    exact Ad z z<|Ab<|AU<|Ap<|Bg<|Bn z z z<|Ae z z<|Ab<|have hC19:=hC17.f1;have hC20:=hC19.h1;Am (l':=[(3,v7),(7,u1),(8,(I (List.length a1:Int))),(9,(I (w64 (x2+1))))]) ⟨z,z,z,z,Aj⟩<|⟨k1,A3 _,v7,x6,w64 (x2+1),z,hC20,hL1⟩
   replace hL1:=A8 hL1 hc1
   refine B1 (A9 (A9 (Bk ?_)))
   obtain rfl:=Aa hL1
   exact Am (l':=[(3,v1)]) ⟨z,Aj⟩<|⟨v1,x1,z,z,hC5⟩
 rintro l2 _ w9 hs2 ⟨v2,x3,rfl,rfl,hC21⟩
 try dsimp only at hF
 refine AY hs2 ?_
 clear hs2
 refine Ac<|Ae z z<|Ad z z<|Ab<|AL<|?_
 obtain rfl:=Aa hF
 exact A2 z z<|⟨_,z,BY hC21 0 z⟩
theorem c_M_matches_c1 {w0:World} (a1:(Int × (List Int))) (u1:Value) (g1:RO [] w0 u1 a1.2) (pb1:Nat) (ax1:(Int × (List Int) × Int × Int × Int)) (g2:ROAt [] w0 pb1 0 ax1) (pb2:Nat) (ax2:(Int × (List Int))) (g3:ROAt [] w0 pb2 0 ax2) (rr:Bool) (hF:M.matches_c1 a1 ax1 ax2=some rr) :
 Calls Tryz.prog 146 [(.agg #[(I a1.1),u1]),(ptr pb1 0),(ptr pb2 0)].toArray w0 fun e w'=>∃v,e=.returned v∧Res w0 rr v w':=by
 refine Ax Tryz.func146 z z ?_
 have hC0:=A5 w0
 unfold M.matches_c1 at hF
 refine Ac<|Br (cs:=[(I a1.1),u1]) hC0 z z z fun b1 w1 hC1 hB1 hN1=>Ad z z<|Ab<|A6<|Ac<|fd A4 Ay z z z z<|Aq hC1 0 z z AR z z<|fd AB Ay z z z z<|AI ty3 g2.fst hC1.keep z z fun v1 h1=>?_
 obtain rfl:=B8 h1
 refine Ch z z z<|Ab<|AE z (fun hc1=>?_) (fun hc1=>?_)
 ·replace hF:=A7 hF hc1
  refine Ac<|Ad z z<|Ab<|AL<|Av<|?_
  obtain rfl:=Aa hF
  exact A2 z z<|⟨_,z,AN hC1 _⟩
 replace hF:=A8 hF hc1
 refine AF<|Ap<|A6<|Ac<|fd AB Az z z z z<|AI ty24 g2.snd.fst hC1.keep z z fun v2 h2=>Bc Ak h2 z z<|Ae z z<|Ab<|be hF fun r1 hr1 hF=>Bi (fun l w=>.inl ()=r1∧l=[]∧Below w1.heap.size w1 w∧Ctx [] w0 w []) ?_ ?_
 ·refine AJ<|wS (l':=[(2,(ptr pb2 0)),(3,(ptr b1 0)),(13,v2),(14,(I (List.length ax1.2.1:Int))),(15,(I 0))]) ⟨z,z,z,z,z,Aj⟩<|B2 (fun k l w=>∃x1:Int,l=[(2,(ptr pb2 0)),(3,(ptr b1 0)),(13,v2),(14,(I (List.length ax1.2.1:Int))),(15,(I x1))]∧Below w1.heap.size w1 w∧Ctx [] w0 w [Ag b1 [(I a1.1),u1]]∧M.matches_c1_l1 ax1 a1 ax2 k x1=some r1) FUEL ⟨0,z,(Al _ _),hC1,hr1⟩<|?_
  clear hr1
  rintro k1 _ w2 ⟨x1,rfl,hB2,hC2,hL1⟩
  cases k1 with
  | zero=>rw [M.matches_c1_l1] at hL1; cases hL1
  | succ k1 =>
   rw [M.matches_c1_l1] at hL1
   refine Ac<|Bv z z z<|Ab<|A6<|AE z (fun hc2=>?_) (fun hc2=>?_)
   ·replace hL1:=A7 hL1 hc2
    refine AF<|Ap<|A6<|AJ<|Ac<|Ae z z<|be hL1 fun x2 hx1 hL1=>AH Ak ty3 h2 hx1 z z z fun b2 o1 h3=>AI ty3 h3 hC2.keep z z fun v3 h4=>?_
    obtain rfl:=B8 h4
    refine Ad z z<|Ad z z<|Ab<|A6<|W_drawn 11 z hmix fun w3 hB3=>have hC3:=hC2.grow hB3;tf 0 A4 Az z z z z z<|tm 2 z z z<|tf 5 AQ Az z z z z z<|tm 7 z z z<|be hL1 fun x3 hx2 hL1=>be hL1 fun x4 hx3 hL1=>wAS (l':=[(2,(ptr pb2 0)),(3,(ptr b1 0)),(5,(I x1)),(6,(I x2)),(13,v2),(14,(I (List.length ax1.2.1:Int))),(15,(I x1)),(16,(.bool (decide (x1 < (List.length ax1.2.1:Int))))),(17,(I x1)),(18,(ptr b2 o1)),(19,(I x2)),(20,(ptr b1 1)),(22,(I x2)),(25,(ptr pb2 (0+1))),(27,(I x1))]) ⟨z,z,z,z,z,z,z,z,z,z,z,z,z,z,z,Aj⟩<|Bq [⟨1,[],fun vs=>Ba u1,[]⟩,⟨3,[],fun vs=>BZ [] w0 x3,[]⟩,⟨4,[],fun vs=>Ba (I x3),[]⟩,⟨6,[],fun vs=>Ce [] w0 ax2.2,[]⟩,⟨8,[],fun vs=>BZ [] w0 x4,[]⟩,⟨9,[],fun vs=>Ba (I x4),[]⟩] [[],[1],[3],[],[6],[8]] 1 z (by kernel_rfl) (by kernel_rfl) z ?_ ?_
    ·refine An z ?_ ?_
     ·intro w4 hB4
      refine At<|⟨_,z,?_⟩
      exact Aq (hC3.grow hB4) 0 z z AM z z<|Ab<|Aw (Al _ _) z z ⟨z,z⟩
     refine An z ?_ ?_
     ·intro w4 hB4
      refine AD z z z ?_
      rintro _ _ ⟨rfl,rfl⟩ _
      refine At<|⟨_,z,?_⟩
      exact AH Ak ty3 g1 hx2 z z z fun b3 o2 h5=>Ab<|Aw (Al _ _) z z ⟨z,_,_,z,h5⟩
     refine An z ?_ ?_
     ·intro w4 hB4
      refine AD z z z ?_
      rintro _ _ ⟨rfl,b3,o2,rfl,h5⟩ _
      refine At<|⟨_,z,?_⟩
      refine AI ty3 h5 (hC3.keep.then hB4) z z (fun v4 h6=>?_)
      obtain rfl:=B8 h6
      exact Ab<|Aw (Al _ _) z z ⟨z,z⟩
     refine An z ?_ ?_
     ·intro w4 hB4
      refine At<|⟨_,z,?_⟩
      exact AI ty24 g3.snd (hC3.keep.then hB4) z z fun v5 h7=>Ab<|Aw (Al _ _) z z ⟨z,h7⟩
     refine An z ?_ ?_
     ·intro w4 hB4
      refine AD z z z ?_
      rintro v5 _ ⟨rfl,h7⟩ _
      refine At<|⟨_,z,?_⟩
      exact AH Ak ty3 h7 hx3 z z z fun b4 o3 h8=>Ab<|Aw (Al _ _) z z ⟨z,_,_,z,h8⟩
     refine An z ?_ ?_
     ·intro w4 hB4
      refine AD z z z ?_
      rintro _ _ ⟨rfl,b4,o3,rfl,h8⟩ _
      refine At<|⟨_,z,?_⟩
      refine AI ty3 h8 (hC3.keep.then hB4) z z (fun v6 h9=>?_)
      obtain rfl:=B8 h9
      exact Ab<|Aw (Al _ _) z z ⟨z,z⟩
     exact Bj
    intro w5 hB5
    refine Ar z z z ?_
    rintro _ _ ⟨rfl,rfl⟩
    refine Ar z z z ?_
    rintro _ _ ⟨rfl,b3,o2,rfl,h5⟩
    refine Ar z z z ?_
    rintro _ _ ⟨rfl,rfl⟩
    refine Ar z z z ?_
    rintro v5 _ ⟨rfl,h7⟩
    refine Ar z z z ?_
    rintro _ _ ⟨rfl,b4,o3,rfl,h8⟩
    refine Ar z z z ?_
    rintro _ _ ⟨rfl,rfl⟩
    refine Bt fun hn1 hb1=>have hC4:=hC3.grow hB5;tk 10 z z (De z z)<|Ch z z z<|Ab<|dn<|Ap<|AE z (fun hc3=>?_) (fun hc3=>?_)
    ·replace hL1:=A7 hL1 hc3
     refine Ac<|Ad z z<|Ab<|AL<|Bd<|Av<|Av<|Bd<|Av<|Av<|?_
     obtain rfl:=Aa hL1
     dsimp only at hF
     obtain rfl:=Aa hF
     exact A2 z z<|⟨_,z,AN hC4 _⟩
    replace hL1:=A8 hL1 hc3
    exact AF<|AU<|Ap<|Bg<|Bn z z z<|Ae z z<|Ab<|Am (l':=[(2,(ptr pb2 0)),(3,(ptr b1 0)),(13,v2),(14,(I (List.length ax1.2.1:Int))),(15,(I (w64 (x1+1))))]) ⟨z,z,z,z,z,Aj⟩<|⟨k1,A3 _,w64 (x1+1),z,(((Ao hB2).then hB3).then hB5).below,hC4,hL1⟩
   replace hL1:=A8 hL1 hc2
   refine B1 (A9 (A9 (Bk ?_)))
   obtain rfl:=Aa hL1
   have hC5:=hC2.h0
   exact Am (l':=[]) Aj<|⟨z,z,(Ao hB2).below,hC5⟩
 rintro l2 _ w6 hs2 ⟨rfl,rfl,hB6,hC6⟩
 try dsimp only at hF
 refine AY hs2 ?_
 clear hs2
 refine Ac<|Ad z z<|Ab<|AL<|?_
 obtain rfl:=Aa hF
 exact A2 z z<|⟨_,z,AN hC6 _⟩
theorem c_Slices_IndexFunc_Limpl_Fact_impl_Fact_M_matches_c1 {w0:World} (a1:(List (Int × (List Int)))) (u1:Value) (g1:RO [] w0 u1 a1) (pb1:Nat) (ax1:(Int × (List Int) × Int × Int × Int)) (g2:ROAt [] w0 pb1 0 ax1) (pb2:Nat) (ax2:(Int × (List Int))) (g3:ROAt [] w0 pb2 0 ax2) (rr:Int) (hF:Slices.IndexFunc_Limpl_Fact_impl_Fact_M_matches_c1 a1 ax1 ax2=some rr) :
 Calls Tryz.prog 126 [u1,(.func (.func 146) #[] #[(ptr pb1 0),(ptr pb2 0)])].toArray w0 fun e w'=>∃v,e=.returned v∧Res w0 rr v w':=by
 refine Ax Cj z z ?_
 have hC0:=A5 w0
 unfold Slices.IndexFunc_Limpl_Fact_impl_Fact_M_matches_c1 at hF
 refine Ac<|Ad z z<|Ab<|A6<|Ac<|Ae z z<|Bc Ai g1 z z<|Ae z z<|Ab<|be hF fun r1 hr1 hF=>Bi (fun l w=>.inl ()=r1∧l=[]∧Below w0.heap.size w0 w∧Ctx [] w0 w []) ?_ ?_
 ·refine AJ<|wS (l':=[(0,u1),(1,(.func (.func 146) #[] #[(ptr pb1 0),(ptr pb2 0)])),(7,(I (List.length a1:Int))),(8,(I 0))]) ⟨z,z,z,z,Aj⟩<|B2 (fun k l w=>∃x1:Int,l=[(0,u1),(1,(.func (.func 146) #[] #[(ptr pb1 0),(ptr pb2 0)])),(7,(I (List.length a1:Int))),(8,(I x1))]∧Below w0.heap.size w0 w∧Ctx [] w0 w []∧Slices.IndexFunc_Limpl_Fact_impl_Fact_M_matches_c1_l1 a1 ax1 ax2 k x1=some r1) FUEL ⟨0,z,(Al _ _),hC0,hr1⟩<|?_
  clear hr1
  rintro k1 _ w1 ⟨x1,rfl,hB1,hC1,hL1⟩
  cases k1 with
  | zero=>rw [Slices.IndexFunc_Limpl_Fact_impl_Fact_M_matches_c1_l1] at hL1; cases hL1
  | succ k1 =>
   rw [Slices.IndexFunc_Limpl_Fact_impl_Fact_M_matches_c1_l1] at hL1
   refine Ac<|Bv z z z<|Ab<|A6<|AE z (fun hc1=>?_) (fun hc1=>?_)
   ·replace hL1:=A7 hL1 hc1
    refine AF<|Ap<|A6<|AJ<|Ac<|Ae z z<|Ad z z<|Ab<|Ac<|Ae z z<|Ae z z<|Ae z z<|be hL1 fun x2 hx1 hL1=>AH Ai ty88 g1 hx1 z z z fun b1 o1 h1=>AI ty88 h1 hC1.keep z z fun v1 h2=>?_
    obtain ⟨v2,rfl,h3⟩:=BD h2
    refine be hL1 fun x3 hr2 hL1=>BT (cap:=[(ptr pb1 0),(ptr pb2 0)]) Tryz.call146 z z z (c_M_matches_c1 x2 v2 (h3.now hC1.keep) pb1 ax1 (g2.now hC1.keep) pb2 ax2 (g3.now hC1.keep) x3 hr2) fun _ w2 hv1=>?_
    obtain ⟨rfl,hB2⟩:=BU hv1
    have hC2:=hC1.grow hB2
    refine Ab<|AE z (fun hc2=>?_) (fun hc2=>?_)
    ·replace hL1:=A7 hL1 hc2
     refine Ac<|Ae z z<|Ad z z<|Ab<|AL<|Bd<|Av<|Av<|Bd<|Av<|Av<|?_
     obtain rfl:=Aa hL1
     dsimp only at hF
     obtain rfl:=Aa hF
     exact A2 z z<|⟨_,z,B4 hC2 _⟩
    replace hL1:=A8 hL1 hc2
    exact AF<|AU<|Ap<|Bg<|Bn z z z<|Ae z z<|Ab<|Am (l':=[(0,u1),(1,(.func (.func 146) #[] #[(ptr pb1 0),(ptr pb2 0)])),(7,(I (List.length a1:Int))),(8,(I (w64 (x1+1))))]) ⟨z,z,z,z,Aj⟩<|⟨k1,A3 _,w64 (x1+1),z,((Ao hB1).then hB2).below,hC2,hL1⟩
   replace hL1:=A8 hL1 hc1
   refine B1 (A9 (A9 (Bk ?_)))
   obtain rfl:=Aa hL1
   exact Am (l':=[]) Aj<|⟨z,z,(Ao hB1).below,hC1⟩
 rintro l2 _ w3 hs2 ⟨rfl,rfl,hB3,hC3⟩
 try dsimp only at hF
 refine AY hs2 ?_
 clear hs2
 refine Ac<|Ad z z<|Ab<|AL<|?_
 obtain rfl:=Aa hF
 exact A2 z z<|⟨_,z,B4 hC3 _⟩
theorem c_Slices_DeleteFunc_Limpl_Fact_impl_Fact_M_matches_c1 {Fs:List (List Nat)} {w0:World} (a1:(List (Int × (List Int)))) (u1:Value) (pb1:Nat) (ax1:(Int × (List Int) × Int × Int × Int)) (g1:ROAt Fs.flatten w0 pb1 0 ax1) (pb2:Nat) (ax2:(Int × (List Int))) (g2:ROAt Fs.flatten w0 pb2 0 ax2) (hH:Hold [Af u1 (a1:(List (Int × (List Int))))] w0 Fs) (hn:Fs.flatten.Nodup) (rr:(List (Int × (List Int)))) (hF:Slices.DeleteFunc_Limpl_Fact_impl_Fact_M_matches_c1 a1 ax1 ax2=some rr) :
 Calls Tryz.prog 84 [u1,(.func (.func 146) #[] #[(ptr pb1 0),(ptr pb2 0)])].toArray w0 fun e w'=>∃v,e=.returned v∧∃q0:Value,v=q0∧Ctx Fs.flatten w0 w' [Af q0 (rr:(List (Int × (List Int))))]:=by
 refine Ax Tryz.func84 z z ?_
 have hC0:=BE hH hn
 unfold Slices.DeleteFunc_Limpl_Fact_impl_Fact_M_matches_c1 at hF
 refine be hF fun x hx hF=>Ac<|Ad z z<|Ab<|Ac<|Ae z z<|Ae z z<|ci Ck z z (c_Slices_IndexFunc_Limpl_Fact_impl_Fact_M_matches_c1 a1 u1 (hC0.ro 0 z) pb1 ax1 (g1.now (A1 _ _)) pb2 ax2 (g2.now (A1 _ _)) x hx) fun w1 hB1=>have hC1:=hC0.grow hB1;Ad z z<|Ab<|A6<|Ac<|Ae z z<|BM z z z<|?_
 by_cases hx1:x=-1
 ·rw [if_pos hx1] at hF
  obtain rfl:=Aa hF
  rw [decide_eq_true hx1]
  exact Ab<|C0 z<|Ac<|Ae z z<|Ad z z<|Ab<|AL<|Av<|A2 z z<|⟨_,z,_,z,hC1⟩
 rw [if_neg hx1] at hF
 have hr:0 ≤ x∧x < (a1.length:Int):=Classical.byContradiction fun h=>by rw [if_neg h] at hF; cases hF
 rw [if_pos hr] at hF
 obtain ⟨m,rfl⟩:∃m:Nat,x=m:=⟨x.toNat,by omega⟩
 have hm:m < a1.length:=by omega
 have hlim:=(hC0.ro 0 z).lt
 simp only [maxLen] at hlim
 rw [Int.toNat_natCast] at hF
 rw [decide_eq_false hx1]
 refine Ab<|C1 z<|AF<|Ap<|A6<|Ac<|Ae z z<|Bn z z z<|?_
 rw [show w64 ((m:Int)+1)=((m+1:Nat):Int) by rw [w64_id (by omega) (by omega)]; omega]
 refine Ad z z<|Ab<|?_
 obtain ⟨b,c,rfl,hc1,hc2,hD0⟩:=hC1.del_open hm
 have hml:(a1.take m).length=m:=by rw [List.length_take]; omega
 refine Bi (fun l w=>∃kept:List (Int × (List Int)),∃g:Nat,l=[(0,.slice (some ⟨b,0,none⟩) a1.length c),(5,.int .i64 (kept.length:Int))]∧0 < g∧kept.length+g=a1.length∧kept=rr∧Ctx Fs.flatten w0 w [Item.del b c kept g ([]:List (Int × (List Int)))]) ?_ ?_
 ·refine AJ<|wS (l':=[(0,.slice (some ⟨b,0,none⟩) a1.length c),(1,(.func (.func 146) #[] #[(ptr pb1 0),(ptr pb2 0)])),(5,.int .i64 (m:Int)),(6,.int .i64 ((m+1:Nat):Int))]) ⟨z,z,z,z,Aj⟩<|B2 (fun k l w=>∃kept:List (Int × (List Int)),∃g:Nat,∃rest:List (Int × (List Int)),l=[(0,.slice (some ⟨b,0,none⟩) a1.length c),(1,(.func (.func 146) #[] #[(ptr pb1 0),(ptr pb2 0)])),(5,.int .i64 (kept.length:Int)),(6,.int .i64 ((kept.length+g:Nat):Int))]∧0 < g∧kept.length+g+rest.length=a1.length∧dfl (fun e=>M.matches_c1 e ax1 ax2) kept rest=some rr∧k=rest.length∧Ctx Fs.flatten w0 w [Item.del b c kept g rest]) (a1.drop (m+1)).length ⟨a1.take m,1,a1.drop (m+1),by rw [hml],by omega,by rw [hml,List.length_drop]; omega,hF,z,hD0⟩<|?_
  clear hF hD0
  rintro k1 _ w2 ⟨kept,g,rest,rfl,hg,hlen,hL,hk,hD⟩
  refine A6<|Ac<|Ae z z<|Ae z z<|WL_len_raw Ai z z<|Bv z z z<|?_
  cases rest with
  | nil =>
   have hq:=Aa hL
   simp only [List.length_nil,Nat.add_zero] at hlen
   rw [decide_eq_false (show ¬ ((kept.length+g:Nat):Int) < (a1.length:Int) by omega)]
   exact Ab<|C1 z<|B1<|A9<|A9<|Bk<|Am (l':=[(0,.slice (some ⟨b,0,none⟩) a1.length c),(5,.int .i64 (kept.length:Int))]) ⟨z,z,Aj⟩<|⟨kept,g,z,hg,hlen,hq,hD⟩
  | cons x rest =>
   simp only [List.length_cons] at hlen hk
   rw [decide_eq_true (show ((kept.length+g:Nat):Int) < (a1.length:Int) by omega)]
   refine Ab<|C0 z<|AF<|Ap<|A6<|AJ<|Ac<|Ae z z<|Ae z z<|CO Ai ty88 (show kept.length+g < a1.length by omega) z z z<|?_
   obtain ⟨cs,hcs,hD1⟩:=hD.del_head
   obtain ⟨hro,row,T,hh,hrow⟩:=hD1.delh_row
   refine WL_load_raw ty88 hh (by rw [Nat.zero_add]; exact hrow) hcs z z ?_
   obtain ⟨e1,hce,_⟩:=BD hro
   obtain rfl:=cells_of_agg (cs':=[(I x.1),e1]) hce
   rw [show mkv (Rep.agg (Int × (List Int))) [(I x.1),e1]=(.agg #[(I x.1),e1]) from z]
   refine WL_alloc hD1 zero88 z z (fun b7 w3 hD2 hB2=>?_)
   have phr:=hD2.delh_ro (α:=(Int × (List Int))) 1 z
   obtain ⟨pf0,phe,pg0⟩:=BD phr
   replace phe:=cells_of_agg (cs:=[(I x.1),e1]) (cs':=[(I x.1),pf0]) phe
   simp only [List.cons.injEq,and_true,true_and] at phe
   obtain rfl:=phe
   refine WL_store_box_agg (cs':=[(I x.1),e1]) (new:=[(I x.1),e1]) hD2 0 z z (fac z<|fac (B0 pg0)<|fa0) z AP z z (fun w4 hD3=>?_)
   try dsimp only [List.set] at hD3
   refine Ab<|Ac<|Ae z z<|Au [(I x.1),e1] hD3 0 z z z Bl AP z z<|?_
   have qhr:=hD3.delh_ro (α:=(Int × (List Int))) 1 z
   obtain ⟨qf0,qhe,qg0⟩:=BD qhr
   replace qhe:=cells_of_agg (cs:=[(I x.1),e1]) (cs':=[(I x.1),qf0]) qhe
   simp only [List.cons.injEq,and_true,true_and] at qhe
   obtain rfl:=qhe
   obtain ⟨q,hq,hL⟩:=CD (show (M.matches_c1 x ax1 ax2).bind (fun b=>dfl (fun e=>M.matches_c1 e ax1 ax2) (if b then kept else kept ++ [x]) rest)=some rr from hL)
   refine BT (cap:=[(ptr pb1 0),(ptr pb2 0)]) Tryz.call146 z z z (c_M_matches_c1 x e1 qg0 pb1 ax1 (g1.now hD3.keep) pb2 ax2 (g2.now hD3.keep) q hq) ?_
   intro _ w5 hv2
   obtain ⟨rfl,hB5⟩:=BU hv2
   have hD4:=hD3.grow hB5
   refine B3 z z<|Ab<|AE z (fun hq1=>?_) (fun hq1=>?_)
   ·have hqf:q=false:=by simpa using hq1
    rw [hqf] at hL
    rw [if_neg (by simp)] at hL
    refine Ac<|Ae z z<|Ae z z<|Au [(I x.1),e1] hD4 0 z z z Bl AP z z<|CO Ai ty88 (show kept.length < a1.length by omega) z z z<|WL_store_del hD4.swap hg ty88 z z z fun w6 hD5=>Ab<|Bg<|Ae z z<|Bn z z z<|?_
    rw [show w64 ((kept.length:Int)+1)=((kept ++ [x]).length:Int) by rw [w64_id (by omega) (by omega),List.length_append]; rfl]
    refine Ad z z<|Ab<|AU<|Ap<|Bg<|Ae z z<|Bn z z z<|?_
    rw [show w64 (((kept.length+g:Nat):Int)+1)=(((kept ++ [x]).length+g:Nat):Int) by rw [w64_id (by omega) (by omega),List.length_append]; simp only [List.length_cons,List.length_nil]; omega]
    exact Ad z z<|Ab<|Am (l':=[(0,.slice (some ⟨b,0,none⟩) a1.length c),(1,(.func (.func 146) #[] #[(ptr pb1 0),(ptr pb2 0)])),(5,.int .i64 ((kept ++ [x]).length:Int)),(6,.int .i64 (((kept ++ [x]).length+g:Nat):Int))]) ⟨z,z,z,z,Aj⟩<|⟨rest.length,by omega,kept ++ [x],g,rest,z,hg,by rw [List.length_append]; simp only [List.length_cons,List.length_nil]; omega,hL,z,hD5.headN 1⟩
   have hqt:q=true:=by simpa using hq1
   rw [hqt] at hL
   rw [if_pos z] at hL
   refine AF<|AU<|Ap<|Bg<|Ae z z<|Bn z z z<|?_
   rw [show w64 (((kept.length+g:Nat):Int)+1)=((kept.length+(g+1):Nat):Int) by rw [w64_id (by omega) (by omega)]; omega]
   refine Ad z z<|Ab<|Am (l':=[(0,.slice (some ⟨b,0,none⟩) a1.length c),(1,(.func (.func 146) #[] #[(ptr pb1 0),(ptr pb2 0)])),(5,.int .i64 (kept.length:Int)),(6,.int .i64 ((kept.length+(g+1):Nat):Int))]) ⟨z,z,z,z,Aj⟩<|?_
   have hD5:=(hD4.swap.headN 1).del_skip
   exact ⟨rest.length,by omega,kept,g+1,rest,z,by omega,by omega,hL,z,hD5⟩
 rintro l2 _ w8 hs2 ⟨kept,g,rfl,hg,hlen,rfl,hD⟩
 refine AY hs2 ?_
 clear hs2
 exact Ac<|Ae z z<|Ae z z<|C6 Ai ty88 (show kept.length < c by omega) (show kept.length ≤ a1.length by omega) hc1 z z z<|WL_clear_del hD Ai ty88 zc88 (fac z<|fac z<|fa0) hlen.symm z hg fun w9 hD9=>Ab<|Ac<|Ae z z<|Ae z z<|WL_sl_h Ai ty88 (hi:=kept.length) (by omega) (by omega) z z z<|Ad z z<|Ab<|AL<|A2 z z<|⟨_,z,_,z,hD9⟩
theorem c_M_matches {w0:World} (a1:(List (Int × (List Int) × Int × Int × Int))) (u1:Value) (g1:RO [] w0 u1 a1) (a2:(List (Int × (List Int)))) (u2:Value) (g2:RO [] w0 u2 a2) (a3:(Int × (List Int))) (u3:Value) (g3:RO [] w0 u3 a3.2) (rr:(List (Int × (List Int)))) (hF:M.matches a1 a2 a3=some rr) :
 Calls Tryz.prog 97 [u1,u2,(.agg #[(I a3.1),u3])].toArray w0 fun e w'=>∃v,e=.returned v∧Res w0 rr v w':=by
 refine Ax Tryz.func97 z z ?_
 have hC0:=A5 w0
 unfold M.matches at hF
 refine Ac<|Br (cs:=[(I a3.1),u3]) hC0 z z z fun b1 w1 hC1 hB1 hN1=>Ad z z<|Ab<|Ac<|Ae z z<|fd AQ Ay z z z z<|Aq hC1 0 z z AR z z<|be hF fun x1 hx1 hF=>AH Be ty93 g1 hx1 z z z fun b2 o1 h1=>AI ty93 h1 hC1.keep z z fun v1 h2=>?_
 obtain ⟨v2,rfl,h3⟩:=CE h2
 refine Bw hC1 zero93 z z fun b3 w2 hC2 hB2 hN2=>AA (cs':=[(I x1.1),v2,(I x1.2.2.1),(I x1.2.2.2.1),(I x1.2.2.2.2)]) (new:=[(I x1.1),v2,(I x1.2.2.1),(I x1.2.2.2.1),(I x1.2.2.2.2)]) hC2 0 z z (fac z<|fac (B0 h3)<|fac z<|fac z<|fac z<|fa0) z B6 z z fun w3 hC3 hKp1=>?_
 try dsimp only [List.set] at hC3
 have hk1:=AO ((Ao hB1).then hB2) (AS (Ao hB1).size hN2) hKp1
 have hk2:=AO (Ao hB2) hN2 hKp1
 refine Ab<|Ac<|Ae z z<|be hF fun x2 hr1 hF=>AG Tryz.call145 z z (c_M_copyFacts a2 u2 (g2.now hC3.keep) x2 hr1)<|?_
 rintro v3 w4 ⟨hB3,F1,hv1,hn1,hb1⟩
 have hC4:=hC3.push hB3 (A:=Af v3 x2) hv1 hn1 hb1
 refine BP z z<|be hF fun x3 hr2 hF=>?_
 obtain ⟨Fs1,hH1,hn2,hF1,hO1,hX1,hb2⟩:=Ctx.lend3 (As:=[Ag b3 [(I x1.1),v2,(I x1.2.2.1),(I x1.2.2.2.1),(I x1.2.2.2.2)],Ag b1 [(I a3.1),u3]]) [Af v3 (x2:(List (Int × (List Int))))] hC4
 refine AG Tryz.call84 z z (c_Slices_DeleteFunc_Limpl_Fact_impl_Fact_M_matches_c1 x2 v3 b3 (x1.1,x1.2.1,x1.2.2.1,x1.2.2.2.1,x1.2.2.2.2) (roat_box (hX1 0 _ _ z) (repd_pair repd_int (repd_pair (repd_slice (Bf h3 hC4.keep hF1)) (repd_pair repd_int (repd_pair repd_int repd_int))))) b1 (a3.1,a3.2) (roat_box (hX1 1 _ _ z) (repd_pair repd_int (repd_slice (Bf g3 hC4.keep hF1)))) hH1 hn2 x3 hr2) ?_
 rintro v4 w5 ⟨_,rfl,hq1⟩
 have hC6:Ctx [] w0 w5 [Af v4 (x3:(List (Int × (List Int)))),Ag b3 [(I x1.1),v2,(I x1.2.2.1),(I x1.2.2.2.1),(I x1.2.2.2.2)],Ag b1 [(I a3.1),u3]]:=hb2 _ _ hq1
 refine Ad z z<|Ab<|AL<|?_
 obtain rfl:=Aa hF
 exact A2 z z<|⟨_,z,BY hC6 0 z⟩
theorem c_M_FitsSelf {w0:World} (a1:(List Int)) (u1:Value) (g1:RO [] w0 u1 a1) (a2:(List (Int × (List Int) × Int × Int × Int))) (u2:Value) (g2:RO [] w0 u2 a2) (a3:((Int × (List Int)) × (List (Int × (List Int))))) (u3:Value) (g3:RO [] w0 u3 a3.1.2) (u4:Value) (g4:RO [] w0 u4 a3.2) (rr:Bool) (hF:M.FitsSelf a1 a2 a3=some rr) :
 Calls Tryz.prog 29 [u1,u2,(.agg #[(I a3.1.1),u3,u4])].toArray w0 fun e w'=>∃v,e=.returned v∧Res w0 rr v w':=by
 refine Ax Tryz.func29 z z ?_
 have hC0:=A5 w0
 unfold M.FitsSelf at hF
 refine Ac<|Br (cs:=[(I a3.1.1),u3,u4]) hC0 z z z fun b1 w1 hC1 hB1 hN1=>Ad z z<|Ab<|A6<|Ac<|Ae z z<|Ae z z<|Au [(I a3.1.1),u3,u4] hC1 0 z z z Bm AT z z<|be hF fun x1 hr1 hF=>cb Tryz.call31 z z (c_M_IsTold a1 u1 (g1.now hC1.keep) a2 u2 (g2.now hC1.keep) ((a3.1.1,a3.1.2),a3.2) u3 (g3.now hC1.keep) u4 (g4.now hC1.keep) x1 hr1) fun w2 hB2=>have hC2:=hC1.grow hB2;B3 z z<|Ab<|AE z (fun hc1=>?_) (fun hc1=>?_)
 ·replace hF:=A7 hF hc1
  refine Ac<|Ad z z<|Ab<|AL<|Av<|?_
  obtain rfl:=Aa hF
  exact A2 z z<|⟨_,z,AN hC2 _⟩
 replace hF:=A8 hF hc1
 refine AF<|Ap<|Ac<|Ae z z<|fd AK AV z z z z<|fd AQ Ay z z z z<|Aq hC2 0 z z AR z z<|be hF fun x2 hx1 hF=>AH Be ty93 g2 hx1 z z z fun b2 o1 h1=>fd AB Ay z z z z<|AI ty3 h1.snd.snd.fst hC2.keep z z fun v1 h2=>?_
 obtain rfl:=B8 h2
 refine Ad z z<|Ab<|be hF fun r1 hr2 hF=>BI (fun l w=>∃x3:Bool,x3=r1∧l=[(6,(.bool x3))]∧Below w2.heap.size w2 w∧Ctx [] w0 w []) ?_ ?_
 ·refine W_drawn 23 z hmix fun w4 hB4=>have hC4:=hC2.grow hB4;tm 0 z z z<|tf 1 AK Bp z z z z z<|tf 3 AK AV z z z z z<|tf 7 AK Bp z z z z z<|be hr2 fun x4 hr3 hr2=>wAS (l':=[(0,u1),(1,u2),(2,(.agg #[(I a3.1.1),u3,u4])),(5,(ptr b1 0)),(6,(.bool false)),(7,(I x2.2.2.1)),(8,u1),(9,u2),(10,(.agg #[(I a3.1.1),u3,u4])),(11,(.bool x1)),(12,(.bool (!x1))),(13,u2),(14,(ptr b1 0)),(15,(ptr b1 0)),(16,(I a3.1.1)),(17,(ptr b2 o1)),(18,(ptr b2 (o1+2))),(19,(I x2.2.2.1)),(20,u2),(21,(ptr b1 2)),(23,(ptr b1 0)),(27,(ptr b1 2))]) ⟨z,z,z,z,z,z,z,z,z,z,z,z,z,z,z,z,z,z,z,z,z,z,Aj⟩<|Bq [⟨2,[],fun vs=>Ba u4,[]⟩,⟨4,[],fun vs=>Ba (.agg #[(I a3.1.1),u3]),[]⟩,⟨5,[],fun vs=>CU x4,[]⟩,⟨6,[],fun vs=>Ba (I (List.length x4:Int)),[]⟩,⟨8,[],fun vs=>Ba u4,[]⟩,⟨9,[],fun vs=>Ba (I (List.length a3.2:Int)),[]⟩] [[],[],[2,4],[5],[],[8]] 13 z (by kernel_rfl) (by kernel_rfl) z ?_ ?_
  ·refine An z ?_ ?_
   ·intro w6 hB6
    refine At<|⟨_,z,?_⟩
    exact Aq (hC4.grow hB6) 0 z z BA z z<|Ab<|Aw (Al _ _) z z ⟨z,z⟩
   refine An z ?_ ?_
   ·intro w6 hB6
    refine At<|⟨_,z,?_⟩
    exact Au [(I a3.1.1),u3] (hC4.grow hB6) 0 z z z Bu AV z z<|Ab<|Aw (Al _ _) z z ⟨z,z⟩
   refine An z ?_ ?_
   ·intro w6 hB6
    refine AD z z z ?_
    rintro _ _ ⟨rfl,rfl⟩ _
    refine AD z z z ?_
    rintro _ _ ⟨rfl,rfl⟩ _
    refine At<|⟨_,z,?_⟩
    refine AG Tryz.call97 z z (c_M_matches a2 u2 (g2.now (hC4.keep.then hB6)) a3.2 u4 (g4.now (hC4.keep.then hB6)) (a3.1.1,a3.1.2) u3 (g3.now (hC4.keep.then hB6)) x4 hr3) ?_
    rintro v2 w5 ⟨hB5,F1,hv2,hn1,hb1⟩
    exact Ab<|Db hB5 z z hv2 hn1 hb1 (Val.inh hv2)
   refine An z ?_ ?_
   ·intro w6 hB6
    refine AD z z z fun v2 F1 hv2 _=>At<|⟨_,z,?_⟩
    exact Bc Ai (ro_of_own hv2) z z<|Ab<|Aw (Al _ _) z z ⟨z,z⟩
   refine An z ?_ ?_
   ·intro w6 hB6
    refine At<|⟨_,z,?_⟩
    exact Aq (hC4.grow hB6) 0 z z BA z z<|Ab<|Aw (Al _ _) z z ⟨z,z⟩
   refine An z ?_ ?_
   ·intro w6 hB6
    refine AD z z z ?_
    rintro _ _ ⟨rfl,rfl⟩ _
    refine At<|⟨_,z,?_⟩
    exact Bc Ai g4 z z<|Ab<|Aw (Al _ _) z z ⟨z,z⟩
   exact Bj
  intro w7 hB7
  refine Ar z z z ?_
  rintro _ _ ⟨rfl,rfl⟩
  refine Ar z z z ?_
  rintro _ _ ⟨rfl,rfl⟩
  refine Ar z z z fun v2 F1 hv2=>Ar z z z<|?_
  rintro _ _ ⟨rfl,rfl⟩
  refine Ar z z z ?_
  rintro _ _ ⟨rfl,rfl⟩
  refine Ar z z z ?_
  rintro _ _ ⟨rfl,rfl⟩
  refine Bt ?_
  intro hn2 hb2
  have hC5:=hC4.pushL hB7 (Bs:=[Af v2 (x4:(List (Int × (List Int))))]) (Fs:=[F1]) ⟨F1,_,z,hv2,z⟩ (by simpa using hn2) (fun b h=>(hb2 b (by simpa using h)).1)
  refine tk 10 z z (CR z z)<|BM z z z<|Ab<|tm 11 z z z<|BC (fun hc2=>?_) (fun hc2=>?_)
  ·replace hr2:=A7 hr2 hc2
   refine tn 12 z z z z z<|tg 13 z z z z (CR z z)<|Ah z z<|BM z z z<|Ab<|tn 14 z z z z z<|BC (fun hc3=>?_) (fun hc3=>?_)
   ·replace hr2:=A7 hr2 hc3
    refine sk 15 z z z z z<|sk 16 z z z z z<|sk 17 z z z z z<|sk 18 z z z z z<|sk 19 z z z z z<|tg 20 z z z z (Cg z z)<|Ah z z<|AW z z z<|Ab<|tp 21 z z z z<|ta 22 z z z<|dn<|?_
    obtain rfl:=Aa hr2
    have hC6:=hC5.h0
    exact Am (l':=[(6,(.bool true))]) ⟨z,Aj⟩<|⟨true,z,z,((Ao hB4).then hB7).below,hC6⟩
   replace hr2:=A8 hr2 hc3
   refine tg 15 z z z z (BB AK z z (fun w=>⟨_,Bp w⟩) z)<|Ah z z<|fd AK Bp z z z z<|Ab<|tn 18 z z z z z<|oe 16 z<|Ah z z<|Aq hC5 1 z z BA z z<|Ab<|tg 17 z z z z (Df Ai g4 z)<|Ah z z<|Bc Ai g4 z z<|Ab<|tg 19 z z z z (fl_leq z z)<|Ah z z<|Cp z z z<|Ab<|tg 20 z z z z (Ci z z)<|Ah z z<|AZ z z z<|Ab<|tp 21 z z z z<|ta 22 z z z<|dn<|?_
   obtain rfl:=Aa hr2
   have hC7:=hC5.h0
   exact Am (l':=[(6,(.bool (decide ((List.length a3.2:Int) ≤ x2.2.2.1))))]) ⟨z,Aj⟩<|⟨(decide ((List.length a3.2:Int) ≤ x2.2.2.1)),z,z,((Ao hB4).then hB7).below,hC7⟩
  replace hr2:=A8 hr2 hc2
  refine sk 12 z z z z z<|sk 13 z z z z z<|sk 14 z z z z z<|sk 15 z z z z z<|sk 16 z z z z z<|sk 17 z z z z z<|sk 18 z z z z z<|sk 19 z z z z z<|sk 20 z z z z z<|tq 21 z z z z<|ta 22 z z z<|dn<|?_
  obtain rfl:=Aa hr2
  have hC8:=hC5.h0
  exact Am (l':=[(6,(.bool false))]) ⟨z,Aj⟩<|⟨false,z,z,((Ao hB4).then hB7).below,hC8⟩
 rintro _ w3 ⟨x3,rfl,rfl,hB3,hC3⟩
 try dsimp only at hF
 refine AL ?_
 obtain rfl:=Aa hF
 exact A2 z z<|⟨_,z,AN hC3 _⟩
theorem c_M_HasFact_c1 {w0:World} (a1:(Int × (List Int))) (u1:Value) (g1:RO [] w0 u1 a1.2) (pb1:Nat) (ax1:(Int × (List Int))) (g2:ROAt [] w0 pb1 0 ax1) (rr:Bool) (hF:M.HasFact_c1 a1 ax1=some rr) :
 Calls Tryz.prog 175 [(.agg #[(I a1.1),u1]),(ptr pb1 0)].toArray w0 fun e w'=>∃v,e=.returned v∧Res w0 rr v w':=by
 refine Ax Tryz.func175 z z ?_
 have hC0:=A5 w0
 unfold M.HasFact_c1 at hF
 refine Ac<|Br (cs:=[(I a1.1),u1]) hC0 z z z fun b1 w1 hC1 hB1 hN1=>Ad z z<|Ab<|Ac<|Au [(I a1.1),u1] hC1 0 z z z Bl AP z z<|AI ty88 g2 hC1.keep z z fun v1 h1=>?_
 obtain ⟨v2,rfl,h2⟩:=BD h1
 refine be hF fun x1 hr1 hF=>ci CN z z (c_M_CompareFacts (a1.1,a1.2) u1 (g1.now hC1.keep) ax1 v2 (h2.now hC1.keep) x1 hr1) fun w2 hB2=>have hC2:=hC1.grow hB2;BM z z z<|Ad z z<|Ab<|AL<|?_
 obtain rfl:=Aa hF
 exact A2 z z<|⟨_,z,AN hC2 _⟩
theorem c_Slices_IndexFunc_Limpl_Fact_impl_Fact_M_HasFact_c1 {w0:World} (a1:(List (Int × (List Int)))) (u1:Value) (g1:RO [] w0 u1 a1) (pb1:Nat) (ax1:(Int × (List Int))) (g2:ROAt [] w0 pb1 0 ax1) (rr:Int) (hF:Slices.IndexFunc_Limpl_Fact_impl_Fact_M_HasFact_c1 a1 ax1=some rr) :
 Calls Tryz.prog 126 [u1,(.func (.func 175) #[] #[(ptr pb1 0)])].toArray w0 fun e w'=>∃v,e=.returned v∧Res w0 rr v w':=by
 refine Ax Cj z z ?_
 have hC0:=A5 w0
 unfold Slices.IndexFunc_Limpl_Fact_impl_Fact_M_HasFact_c1 at hF
 refine Ac<|Ad z z<|Ab<|A6<|Ac<|Ae z z<|Bc Ai g1 z z<|Ae z z<|Ab<|be hF fun r1 hr1 hF=>Bi (fun l w=>.inl ()=r1∧l=[]∧Below w0.heap.size w0 w∧Ctx [] w0 w []) ?_ ?_
 ·refine AJ<|wS (l':=[(0,u1),(1,(.func (.func 175) #[] #[(ptr pb1 0)])),(7,(I (List.length a1:Int))),(8,(I 0))]) ⟨z,z,z,z,Aj⟩<|B2 (fun k l w=>∃x1:Int,l=[(0,u1),(1,(.func (.func 175) #[] #[(ptr pb1 0)])),(7,(I (List.length a1:Int))),(8,(I x1))]∧Below w0.heap.size w0 w∧Ctx [] w0 w []∧Slices.IndexFunc_Limpl_Fact_impl_Fact_M_HasFact_c1_l1 a1 ax1 k x1=some r1) FUEL ⟨0,z,(Al _ _),hC0,hr1⟩<|?_
  clear hr1
  rintro k1 _ w1 ⟨x1,rfl,hB1,hC1,hL1⟩
  cases k1 with
  | zero=>rw [Slices.IndexFunc_Limpl_Fact_impl_Fact_M_HasFact_c1_l1] at hL1; cases hL1
  | succ k1 =>
   rw [Slices.IndexFunc_Limpl_Fact_impl_Fact_M_HasFact_c1_l1] at hL1
   refine Ac<|Bv z z z<|Ab<|A6<|AE z (fun hc1=>?_) (fun hc1=>?_)
   ·replace hL1:=A7 hL1 hc1
    refine AF<|Ap<|A6<|AJ<|Ac<|Ae z z<|Ad z z<|Ab<|Ac<|Ae z z<|Ae z z<|Ae z z<|be hL1 fun x2 hx1 hL1=>AH Ai ty88 g1 hx1 z z z fun b1 o1 h1=>AI ty88 h1 hC1.keep z z fun v1 h2=>?_
    obtain ⟨v2,rfl,h3⟩:=BD h2
    refine be hL1 fun x3 hr2 hL1=>BT (cap:=[(ptr pb1 0)]) Tryz.call175 z z z (c_M_HasFact_c1 x2 v2 (h3.now hC1.keep) pb1 ax1 (g2.now hC1.keep) x3 hr2) fun _ w2 hv1=>?_
    obtain ⟨rfl,hB2⟩:=BU hv1
    have hC2:=hC1.grow hB2
    refine Ab<|AE z (fun hc2=>?_) (fun hc2=>?_)
    ·replace hL1:=A7 hL1 hc2
     refine Ac<|Ae z z<|Ad z z<|Ab<|AL<|Bd<|Av<|Av<|Bd<|Av<|Av<|?_
     obtain rfl:=Aa hL1
     dsimp only at hF
     obtain rfl:=Aa hF
     exact A2 z z<|⟨_,z,B4 hC2 _⟩
    replace hL1:=A8 hL1 hc2
    exact AF<|AU<|Ap<|Bg<|Bn z z z<|Ae z z<|Ab<|Am (l':=[(0,u1),(1,(.func (.func 175) #[] #[(ptr pb1 0)])),(7,(I (List.length a1:Int))),(8,(I (w64 (x1+1))))]) ⟨z,z,z,z,Aj⟩<|⟨k1,A3 _,w64 (x1+1),z,((Ao hB1).then hB2).below,hC2,hL1⟩
   replace hL1:=A8 hL1 hc1
   refine B1 (A9 (A9 (Bk ?_)))
   obtain rfl:=Aa hL1
   exact Am (l':=[]) Aj<|⟨z,z,(Ao hB1).below,hC1⟩
 rintro l2 _ w3 hs2 ⟨rfl,rfl,hB3,hC3⟩
 try dsimp only at hF
 refine AY hs2 ?_
 clear hs2
 refine Ac<|Ad z z<|Ab<|AL<|?_
 obtain rfl:=Aa hF
 exact A2 z z<|⟨_,z,B4 hC3 _⟩
theorem c_Slices_ContainsFunc_Limpl_Fact_impl_Fact_M_HasFact_c1 {w0:World} (a1:(List (Int × (List Int)))) (u1:Value) (g1:RO [] w0 u1 a1) (pb1:Nat) (ax1:(Int × (List Int))) (g2:ROAt [] w0 pb1 0 ax1) (rr:Bool) (hF:Slices.ContainsFunc_Limpl_Fact_impl_Fact_M_HasFact_c1 a1 ax1=some rr) :
 Calls Tryz.prog 93 [u1,(.func (.func 175) #[] #[(ptr pb1 0)])].toArray w0 fun e w'=>∃v,e=.returned v∧Res w0 rr v w':=by
 refine Ax CW z z ?_
 have hC0:=A5 w0
 unfold Slices.ContainsFunc_Limpl_Fact_impl_Fact_M_HasFact_c1 at hF
 refine Ac<|Ad z z<|Ab<|Ac<|Ae z z<|Ae z z<|be hF fun x1 hr1 hF=>ci Ck z z (c_Slices_IndexFunc_Limpl_Fact_impl_Fact_M_HasFact_c1 a1 u1 (g1.now hC0.keep) pb1 ax1 (g2.now hC0.keep) x1 hr1) fun w1 hB1=>have hC1:=hC0.grow hB1;Cf z z z<|Ad z z<|Ab<|AL<|?_
 obtain rfl:=Aa hF
 exact A2 z z<|⟨_,z,AN hC1 _⟩
theorem c_M_HasFact {w0:World} (a1:(List (Int × (List Int)))) (u1:Value) (g1:RO [] w0 u1 a1) (a2:(Int × (List Int))) (u2:Value) (g2:RO [] w0 u2 a2.2) (rr:Bool) (hF:M.HasFact a1 a2=some rr) :
 Calls Tryz.prog 125 [u1,(.agg #[(I a2.1),u2])].toArray w0 fun e w'=>∃v,e=.returned v∧Res w0 rr v w':=by
 refine Ax Tryz.func125 z z ?_
 have hC0:=A5 w0
 unfold M.HasFact at hF
 refine Ac<|Br (cs:=[(I a2.1),u2]) hC0 z z z fun b1 w1 hC1 hB1 hN1=>Ad z z<|Ab<|Ac<|Ae z z<|BP z z<|be hF fun x1 hr1 hF=>cb CX z z (c_Slices_ContainsFunc_Limpl_Fact_impl_Fact_M_HasFact_c1 a1 u1 (g1.now hC1.keep) b1 (a2.1,a2.2) (hC1.boxAt 0 z (repw_pair repw_int (repw_slice (g2.now hC1.keep)))) x1 hr1) fun w2 hB2=>have hC2:=hC1.grow hB2;Ad z z<|Ab<|AL<|?_
 obtain rfl:=Aa hF
 exact A2 z z<|⟨_,z,AN hC2 _⟩
theorem c_M_Told_denies {w0:World} (a1:((Int × (List Int)) × (List (Int × (List Int))))) (u1:Value) (g1:RO [] w0 u1 a1.1.2) (u2:Value) (g2:RO [] w0 u2 a1.2) (a2:(List (Int × (List Int) × Int × Int × Int))) (u3:Value) (g3:RO [] w0 u3 a2) (a3:(Int × (List Int))) (u4:Value) (g4:RO [] w0 u4 a3.2) (rr:Bool) (hF:M.Told_denies a1 a2 a3=some rr) :
 Calls Tryz.prog 88 [(.agg #[(I a1.1.1),u1,u2]),u3,(.agg #[(I a3.1),u4])].toArray w0 fun e w'=>∃v,e=.returned v∧Res w0 rr v w':=by
 refine Ax Tryz.func88 z z ?_
 have hC0:=A5 w0
 unfold M.Told_denies at hF
 refine Ac<|Br (cs:=[(I a1.1.1),u1,u2]) hC0 z z z fun b1 w1 hC1 hB1 hN1=>Br (cs:=[(I a3.1),u4]) hC1 z z z fun b2 w2 hC2 hB2 hN2=>Ad z z<|Ab<|Ac<|Ae z z<|fd AK AV z z z z<|fd AQ Ay z z z z<|Aq hC2 1 z z AR z z<|be hF fun x1 hx1 hF=>AH Be ty93 g3 hx1 z z z fun b3 o1 h1=>fd AB Ay z z z z<|AI ty3 h1.snd.snd.fst hC2.keep z z fun v1 h2=>?_
 obtain rfl:=B8 h2
 refine Ad z z<|Ab<|be hF fun r1 hr1 hF=>BI (fun l w=>∃x2:Bool,x2=r1∧l=[(6,(.bool x2))]∧Below w2.heap.size w2 w∧Ctx [] w0 w []) ?_ ?_
 ·refine Bg<|Ae z z<|Au [(I a3.1),u4] hC2 0 z z z Bl AP z z<|AC (vs:=[(.agg #[(I a3.1),u4])]) hC2 Ai ty88 z z z z (fac z<|fa0) z z fun b4 w4 hC4 hB4=>fd AK AV z z z z<|Au [(I a1.1.1),u1] hC4 2 z z z Bu AV z z<|be hr1 fun x3 hr2 hr1=>AG Tryz.call97 z z (c_M_matches a2 u3 (g3.now hC4.keep) ([(a3.1,a3.2)]:List (Int × (List Int))) (.slice (some ⟨b4,0,none⟩) 1 1) ((hC4.litRO (m:=1) 0 z (rowro_cons (repw_pair repw_int (repw_slice (g4.now hC4.keep))) rowro_nil) z (by simp [maxLen]) (by decide)).now (A1 _ _)) (a1.1.1,a1.1.2) u1 (g1.now hC4.keep) x3 hr2)<|?_
  rintro v2 w5 ⟨hB5,F1,hv1,hn1,hb1⟩
  have hC5:=hC4.push hB5 (A:=Af v2 x3) hv1 hn1 hb1
  refine Bc Ai (hC5.ro 0 z) z z<|Ca z z z<|Ae z z<|Bz (fun hc1=>?_) (fun hc1=>?_)
  ·replace hr1:=A7 hr1 hc1
   refine Ah z z<|fd AK Bp z z z z<|Ah z z<|Aq hC5 3 z z BA z z<|Ah z z<|Au [(I a3.1),u4] hC5 2 z z z Bl AP z z<|be hr1 fun x4 hr3 hr1=>Ah z z<|cb CP z z (c_M_HasFact a1.2 u2 (g2.now hC5.keep) (a3.1,a3.2) u4 (g4.now hC5.keep) x4 hr3) fun w6 hB6=>have hC6:=hC5.grow hB6;Ah z z<|B3 z z<|AW z z z<|Ae z z<|Bz (fun hc2=>?_) (fun hc2=>?_)
   ·replace hr1:=A7 hr1 hc2
    refine Ah z z<|Ae z z<|Ah z z<|BM z z z<|Ah z z<|Ae z z<|Bz (fun hc3=>?_) (fun hc3=>?_)
    ·replace hr1:=A7 hr1 hc3
     refine gs z z z z<|gs z z z z<|gs z z z z<|gs z z z z<|gs z z z z<|Ah z z<|AW z z z<|AW z z z<|Ad z z<|Ab<|?_
     obtain rfl:=Aa hr1
     have hC7:=hC6.h0
     exact Am (l':=[(6,(.bool true))]) ⟨z,Aj⟩<|⟨true,z,z,(((Ao hB4).then hB5).then hB6).below,hC7⟩
    replace hr1:=A8 hr1 hc3
    refine Ah z z<|fd AK Bp z z z z<|Ah z z<|Aq hC6 3 z z BA z z<|Ah z z<|Bc Ai g2 z z<|Ah z z<|Ae z z<|Ah z z<|Bv z z z<|Ah z z<|AZ z z z<|AW z z z<|Ad z z<|Ab<|?_
    obtain rfl:=Aa hr1
    have hC8:=hC6.h0
    exact Am (l':=[(6,(.bool (decide ((List.length a1.2:Int) < x1.2.2.1))))]) ⟨z,Aj⟩<|⟨(decide ((List.length a1.2:Int) < x1.2.2.1)),z,z,(((Ao hB4).then hB5).then hB6).below,hC8⟩
   replace hr1:=A8 hr1 hc2
   refine gs z z z z<|gs z z z z<|gs z z z z<|gs z z z z<|gs z z z z<|gs z z z z<|gs z z z z<|gs z z z z<|gs z z z z<|AZ z z z<|Ad z z<|Ab<|?_
   obtain rfl:=Aa hr1
   have hC9:=hC6.h0
   exact Am (l':=[(6,(.bool false))]) ⟨z,Aj⟩<|⟨false,z,z,(((Ao hB4).then hB5).then hB6).below,hC9⟩
  replace hr1:=A8 hr1 hc1
  refine gs z z z z<|gs z z z z<|gs z z z z<|gs z z z z<|gs z z z z<|AZ z z z<|Ae z z<|gs z z z z<|gs z z z z<|gs z z z z<|gs z z z z<|gs z z z z<|gs z z z z<|gs z z z z<|gs z z z z<|gs z z z z<|AZ z z z<|Ad z z<|Ab<|?_
  obtain rfl:=Aa hr1
  have hC10:=hC5.h0
  exact Am (l':=[(6,(.bool false))]) ⟨z,Aj⟩<|⟨false,z,z,((Ao hB4).then hB5).below,hC10⟩
 rintro _ w3 ⟨x2,rfl,rfl,hB3,hC3⟩
 try dsimp only at hF
 refine AL ?_
 obtain rfl:=Aa hF
 exact A2 z z<|⟨_,z,AN hC3 _⟩
theorem c_M_Disagree_c1 {w0:World} (a1:(Int × (List Int))) (u1:Value) (g1:RO [] w0 u1 a1.2) (pb1:Nat) (ax1:((Int × (List Int)) × (List (Int × (List Int))))) (g2:ROAt [] w0 pb1 0 ax1) (pb2:Nat) (ax2:(List (Int × (List Int) × Int × Int × Int))) (g3:ROAt [] w0 pb2 0 ax2) (rr:Bool) (hF:M.Disagree_c1 a1 ax1 ax2=some rr) :
 Calls Tryz.prog 94 [(.agg #[(I a1.1),u1]),(ptr pb1 0),(ptr pb2 0)].toArray w0 fun e w'=>∃v,e=.returned v∧Res w0 rr v w':=by
 refine Ax Tryz.func94 z z ?_
 have hC0:=A5 w0
 unfold M.Disagree_c1 at hF
 refine Ac<|Br (cs:=[(I a1.1),u1]) hC0 z z z fun b1 w1 hC1 hB1 hN1=>Ad z z<|Ab<|Ac<|AI ty46 g2 hC1.keep z z fun v1 h1=>?_
 obtain ⟨v2,v3,rfl,h2,h3⟩:=Cr h1
 refine AI ty25 g3 hC1.keep z z fun v4 h4=>Au [(I a1.1),u1] hC1 0 z z z Bl AP z z<|be hF fun x1 hr1 hF=>cb Tryz.call88 z z (c_M_Told_denies ax1 v2 (h2.now hC1.keep) v3 (h3.now hC1.keep) ax2 v4 (h4.now hC1.keep) (a1.1,a1.2) u1 (g1.now hC1.keep) x1 hr1) fun w2 hB2=>have hC2:=hC1.grow hB2;Ad z z<|Ab<|AL<|?_
 obtain rfl:=Aa hF
 exact A2 z z<|⟨_,z,AN hC2 _⟩
theorem c_M_Disagree_c2 {w0:World} (a1:(Int × (List Int))) (u1:Value) (g1:RO [] w0 u1 a1.2) (pb1:Nat) (ax1:((Int × (List Int)) × (List (Int × (List Int))))) (g2:ROAt [] w0 pb1 0 ax1) (pb2:Nat) (ax2:(List (Int × (List Int) × Int × Int × Int))) (g3:ROAt [] w0 pb2 0 ax2) (rr:Bool) (hF:M.Disagree_c2 a1 ax1 ax2=some rr) :
 Calls Tryz.prog 95 [(.agg #[(I a1.1),u1]),(ptr pb1 0),(ptr pb2 0)].toArray w0 fun e w'=>∃v,e=.returned v∧Res w0 rr v w':=by
 refine Ax Tryz.func95 z z ?_
 have hC0:=A5 w0
 unfold M.Disagree_c2 at hF
 refine Ac<|Br (cs:=[(I a1.1),u1]) hC0 z z z fun b1 w1 hC1 hB1 hN1=>Ad z z<|Ab<|Ac<|AI ty46 g2 hC1.keep z z fun v1 h1=>?_
 obtain ⟨v2,v3,rfl,h2,h3⟩:=Cr h1
 refine AI ty25 g3 hC1.keep z z fun v4 h4=>Au [(I a1.1),u1] hC1 0 z z z Bl AP z z<|be hF fun x1 hr1 hF=>cb Tryz.call88 z z (c_M_Told_denies ax1 v2 (h2.now hC1.keep) v3 (h3.now hC1.keep) ax2 v4 (h4.now hC1.keep) (a1.1,a1.2) u1 (g1.now hC1.keep) x1 hr1) fun w2 hB2=>have hC2:=hC1.grow hB2;Ad z z<|Ab<|AL<|?_
 obtain rfl:=Aa hF
 exact A2 z z<|⟨_,z,AN hC2 _⟩
theorem c_Slices_IndexFunc_Limpl_Fact_impl_Fact_M_Disagree_c1 {w0:World} (a1:(List (Int × (List Int)))) (u1:Value) (g1:RO [] w0 u1 a1) (pb1:Nat) (ax1:((Int × (List Int)) × (List (Int × (List Int))))) (g2:ROAt [] w0 pb1 0 ax1) (pb2:Nat) (ax2:(List (Int × (List Int) × Int × Int × Int))) (g3:ROAt [] w0 pb2 0 ax2) (rr:Int) (hF:Slices.IndexFunc_Limpl_Fact_impl_Fact_M_Disagree_c1 a1 ax1 ax2=some rr) :
 Calls Tryz.prog 126 [u1,(.func (.func 94) #[] #[(ptr pb1 0),(ptr pb2 0)])].toArray w0 fun e w'=>∃v,e=.returned v∧Res w0 rr v w':=by
 refine Ax Cj z z ?_
 have hC0:=A5 w0
 unfold Slices.IndexFunc_Limpl_Fact_impl_Fact_M_Disagree_c1 at hF
 refine Ac<|Ad z z<|Ab<|A6<|Ac<|Ae z z<|Bc Ai g1 z z<|Ae z z<|Ab<|be hF fun r1 hr1 hF=>Bi (fun l w=>.inl ()=r1∧l=[]∧Below w0.heap.size w0 w∧Ctx [] w0 w []) ?_ ?_
 ·refine AJ<|wS (l':=[(0,u1),(1,(.func (.func 94) #[] #[(ptr pb1 0),(ptr pb2 0)])),(7,(I (List.length a1:Int))),(8,(I 0))]) ⟨z,z,z,z,Aj⟩<|B2 (fun k l w=>∃x1:Int,l=[(0,u1),(1,(.func (.func 94) #[] #[(ptr pb1 0),(ptr pb2 0)])),(7,(I (List.length a1:Int))),(8,(I x1))]∧Below w0.heap.size w0 w∧Ctx [] w0 w []∧Slices.IndexFunc_Limpl_Fact_impl_Fact_M_Disagree_c1_l1 a1 ax1 ax2 k x1=some r1) FUEL ⟨0,z,(Al _ _),hC0,hr1⟩<|?_
  clear hr1
  rintro k1 _ w1 ⟨x1,rfl,hB1,hC1,hL1⟩
  cases k1 with
  | zero=>rw [Slices.IndexFunc_Limpl_Fact_impl_Fact_M_Disagree_c1_l1] at hL1; cases hL1
  | succ k1 =>
   rw [Slices.IndexFunc_Limpl_Fact_impl_Fact_M_Disagree_c1_l1] at hL1
   refine Ac<|Bv z z z<|Ab<|A6<|AE z (fun hc1=>?_) (fun hc1=>?_)
   ·replace hL1:=A7 hL1 hc1
    refine AF<|Ap<|A6<|AJ<|Ac<|Ae z z<|Ad z z<|Ab<|Ac<|Ae z z<|Ae z z<|Ae z z<|be hL1 fun x2 hx1 hL1=>AH Ai ty88 g1 hx1 z z z fun b1 o1 h1=>AI ty88 h1 hC1.keep z z fun v1 h2=>?_
    obtain ⟨v2,rfl,h3⟩:=BD h2
    refine be hL1 fun x3 hr2 hL1=>BT (cap:=[(ptr pb1 0),(ptr pb2 0)]) Tryz.call94 z z z (c_M_Disagree_c1 x2 v2 (h3.now hC1.keep) pb1 ax1 (g2.now hC1.keep) pb2 ax2 (g3.now hC1.keep) x3 hr2) fun _ w2 hv1=>?_
    obtain ⟨rfl,hB2⟩:=BU hv1
    have hC2:=hC1.grow hB2
    refine Ab<|AE z (fun hc2=>?_) (fun hc2=>?_)
    ·replace hL1:=A7 hL1 hc2
     refine Ac<|Ae z z<|Ad z z<|Ab<|AL<|Bd<|Av<|Av<|Bd<|Av<|Av<|?_
     obtain rfl:=Aa hL1
     dsimp only at hF
     obtain rfl:=Aa hF
     exact A2 z z<|⟨_,z,B4 hC2 _⟩
    replace hL1:=A8 hL1 hc2
    exact AF<|AU<|Ap<|Bg<|Bn z z z<|Ae z z<|Ab<|Am (l':=[(0,u1),(1,(.func (.func 94) #[] #[(ptr pb1 0),(ptr pb2 0)])),(7,(I (List.length a1:Int))),(8,(I (w64 (x1+1))))]) ⟨z,z,z,z,Aj⟩<|⟨k1,A3 _,w64 (x1+1),z,((Ao hB1).then hB2).below,hC2,hL1⟩
   replace hL1:=A8 hL1 hc1
   refine B1 (A9 (A9 (Bk ?_)))
   obtain rfl:=Aa hL1
   exact Am (l':=[]) Aj<|⟨z,z,(Ao hB1).below,hC1⟩
 rintro l2 _ w3 hs2 ⟨rfl,rfl,hB3,hC3⟩
 try dsimp only at hF
 refine AY hs2 ?_
 clear hs2
 refine Ac<|Ad z z<|Ab<|AL<|?_
 obtain rfl:=Aa hF
 exact A2 z z<|⟨_,z,B4 hC3 _⟩
theorem c_Slices_ContainsFunc_Limpl_Fact_impl_Fact_M_Disagree_c1 {w0:World} (a1:(List (Int × (List Int)))) (u1:Value) (g1:RO [] w0 u1 a1) (pb1:Nat) (ax1:((Int × (List Int)) × (List (Int × (List Int))))) (g2:ROAt [] w0 pb1 0 ax1) (pb2:Nat) (ax2:(List (Int × (List Int) × Int × Int × Int))) (g3:ROAt [] w0 pb2 0 ax2) (rr:Bool) (hF:Slices.ContainsFunc_Limpl_Fact_impl_Fact_M_Disagree_c1 a1 ax1 ax2=some rr) :
 Calls Tryz.prog 93 [u1,(.func (.func 94) #[] #[(ptr pb1 0),(ptr pb2 0)])].toArray w0 fun e w'=>∃v,e=.returned v∧Res w0 rr v w':=by
 refine Ax CW z z ?_
 have hC0:=A5 w0
 unfold Slices.ContainsFunc_Limpl_Fact_impl_Fact_M_Disagree_c1 at hF
 refine Ac<|Ad z z<|Ab<|Ac<|Ae z z<|Ae z z<|be hF fun x1 hr1 hF=>ci Ck z z (c_Slices_IndexFunc_Limpl_Fact_impl_Fact_M_Disagree_c1 a1 u1 (g1.now hC0.keep) pb1 ax1 (g2.now hC0.keep) pb2 ax2 (g3.now hC0.keep) x1 hr1) fun w1 hB1=>have hC1:=hC0.grow hB1;Cf z z z<|Ad z z<|Ab<|AL<|?_
 obtain rfl:=Aa hF
 exact A2 z z<|⟨_,z,AN hC1 _⟩
theorem c_Slices_IndexFunc_Limpl_Fact_impl_Fact_M_Disagree_c2 {w0:World} (a1:(List (Int × (List Int)))) (u1:Value) (g1:RO [] w0 u1 a1) (pb1:Nat) (ax1:((Int × (List Int)) × (List (Int × (List Int))))) (g2:ROAt [] w0 pb1 0 ax1) (pb2:Nat) (ax2:(List (Int × (List Int) × Int × Int × Int))) (g3:ROAt [] w0 pb2 0 ax2) (rr:Int) (hF:Slices.IndexFunc_Limpl_Fact_impl_Fact_M_Disagree_c2 a1 ax1 ax2=some rr) :
 Calls Tryz.prog 126 [u1,(.func (.func 95) #[] #[(ptr pb1 0),(ptr pb2 0)])].toArray w0 fun e w'=>∃v,e=.returned v∧Res w0 rr v w':=by
 refine Ax Cj z z ?_
 have hC0:=A5 w0
 unfold Slices.IndexFunc_Limpl_Fact_impl_Fact_M_Disagree_c2 at hF
 refine Ac<|Ad z z<|Ab<|A6<|Ac<|Ae z z<|Bc Ai g1 z z<|Ae z z<|Ab<|be hF fun r1 hr1 hF=>Bi (fun l w=>.inl ()=r1∧l=[]∧Below w0.heap.size w0 w∧Ctx [] w0 w []) ?_ ?_
 ·refine AJ<|wS (l':=[(0,u1),(1,(.func (.func 95) #[] #[(ptr pb1 0),(ptr pb2 0)])),(7,(I (List.length a1:Int))),(8,(I 0))]) ⟨z,z,z,z,Aj⟩<|B2 (fun k l w=>∃x1:Int,l=[(0,u1),(1,(.func (.func 95) #[] #[(ptr pb1 0),(ptr pb2 0)])),(7,(I (List.length a1:Int))),(8,(I x1))]∧Below w0.heap.size w0 w∧Ctx [] w0 w []∧Slices.IndexFunc_Limpl_Fact_impl_Fact_M_Disagree_c2_l1 a1 ax1 ax2 k x1=some r1) FUEL ⟨0,z,(Al _ _),hC0,hr1⟩<|?_
  clear hr1
  rintro k1 _ w1 ⟨x1,rfl,hB1,hC1,hL1⟩
  cases k1 with
  | zero=>rw [Slices.IndexFunc_Limpl_Fact_impl_Fact_M_Disagree_c2_l1] at hL1; cases hL1
  | succ k1 =>
   rw [Slices.IndexFunc_Limpl_Fact_impl_Fact_M_Disagree_c2_l1] at hL1
   refine Ac<|Bv z z z<|Ab<|A6<|AE z (fun hc1=>?_) (fun hc1=>?_)
   ·replace hL1:=A7 hL1 hc1
    refine AF<|Ap<|A6<|AJ<|Ac<|Ae z z<|Ad z z<|Ab<|Ac<|Ae z z<|Ae z z<|Ae z z<|be hL1 fun x2 hx1 hL1=>AH Ai ty88 g1 hx1 z z z fun b1 o1 h1=>AI ty88 h1 hC1.keep z z fun v1 h2=>?_
    obtain ⟨v2,rfl,h3⟩:=BD h2
    refine be hL1 fun x3 hr2 hL1=>BT (cap:=[(ptr pb1 0),(ptr pb2 0)]) Tryz.call95 z z z (c_M_Disagree_c2 x2 v2 (h3.now hC1.keep) pb1 ax1 (g2.now hC1.keep) pb2 ax2 (g3.now hC1.keep) x3 hr2) fun _ w2 hv1=>?_
    obtain ⟨rfl,hB2⟩:=BU hv1
    have hC2:=hC1.grow hB2
    refine Ab<|AE z (fun hc2=>?_) (fun hc2=>?_)
    ·replace hL1:=A7 hL1 hc2
     refine Ac<|Ae z z<|Ad z z<|Ab<|AL<|Bd<|Av<|Av<|Bd<|Av<|Av<|?_
     obtain rfl:=Aa hL1
     dsimp only at hF
     obtain rfl:=Aa hF
     exact A2 z z<|⟨_,z,B4 hC2 _⟩
    replace hL1:=A8 hL1 hc2
    exact AF<|AU<|Ap<|Bg<|Bn z z z<|Ae z z<|Ab<|Am (l':=[(0,u1),(1,(.func (.func 95) #[] #[(ptr pb1 0),(ptr pb2 0)])),(7,(I (List.length a1:Int))),(8,(I (w64 (x1+1))))]) ⟨z,z,z,z,Aj⟩<|⟨k1,A3 _,w64 (x1+1),z,((Ao hB1).then hB2).below,hC2,hL1⟩
   replace hL1:=A8 hL1 hc1
   refine B1 (A9 (A9 (Bk ?_)))
   obtain rfl:=Aa hL1
   exact Am (l':=[]) Aj<|⟨z,z,(Ao hB1).below,hC1⟩
 rintro l2 _ w3 hs2 ⟨rfl,rfl,hB3,hC3⟩
 try dsimp only at hF
 refine AY hs2 ?_
 clear hs2
 refine Ac<|Ad z z<|Ab<|AL<|?_
 obtain rfl:=Aa hF
 exact A2 z z<|⟨_,z,B4 hC3 _⟩
theorem c_Slices_ContainsFunc_Limpl_Fact_impl_Fact_M_Disagree_c2 {w0:World} (a1:(List (Int × (List Int)))) (u1:Value) (g1:RO [] w0 u1 a1) (pb1:Nat) (ax1:((Int × (List Int)) × (List (Int × (List Int))))) (g2:ROAt [] w0 pb1 0 ax1) (pb2:Nat) (ax2:(List (Int × (List Int) × Int × Int × Int))) (g3:ROAt [] w0 pb2 0 ax2) (rr:Bool) (hF:Slices.ContainsFunc_Limpl_Fact_impl_Fact_M_Disagree_c2 a1 ax1 ax2=some rr) :
 Calls Tryz.prog 93 [u1,(.func (.func 95) #[] #[(ptr pb1 0),(ptr pb2 0)])].toArray w0 fun e w'=>∃v,e=.returned v∧Res w0 rr v w':=by
 refine Ax CW z z ?_
 have hC0:=A5 w0
 unfold Slices.ContainsFunc_Limpl_Fact_impl_Fact_M_Disagree_c2 at hF
 refine Ac<|Ad z z<|Ab<|Ac<|Ae z z<|Ae z z<|be hF fun x1 hr1 hF=>ci Ck z z (c_Slices_IndexFunc_Limpl_Fact_impl_Fact_M_Disagree_c2 a1 u1 (g1.now hC0.keep) pb1 ax1 (g2.now hC0.keep) pb2 ax2 (g3.now hC0.keep) x1 hr1) fun w1 hB1=>have hC1:=hC0.grow hB1;Cf z z z<|Ad z z<|Ab<|AL<|?_
 obtain rfl:=Aa hF
 exact A2 z z<|⟨_,z,AN hC1 _⟩
theorem c_M_Disagree {w0:World} (a1:(List Int)) (u1:Value) (g1:RO [] w0 u1 a1) (a2:(List (Int × (List Int) × Int × Int × Int))) (u2:Value) (g2:RO [] w0 u2 a2) (a3:((Int × (List Int)) × (List (Int × (List Int))))) (u3:Value) (g3:RO [] w0 u3 a3.1.2) (u4:Value) (g4:RO [] w0 u4 a3.2) (a4:((Int × (List Int)) × (List (Int × (List Int))))) (u5:Value) (g5:RO [] w0 u5 a4.1.2) (u6:Value) (g6:RO [] w0 u6 a4.2) (rr:Bool) (hF:M.Disagree a1 a2 a3 a4=some rr) :
 Calls Tryz.prog 27 [u1,u2,(.agg #[(I a3.1.1),u3,u4]),(.agg #[(I a4.1.1),u5,u6])].toArray w0 fun e w'=>∃v,e=.returned v∧Res w0 rr v w':=by
 refine Ax Tryz.func27 z z ?_
 have hC0:=A5 w0
 unfold M.Disagree at hF
 refine Ac<|Br (cs:=[u2]) hC0 (B7 g2) z z fun b1 w1 hC1 hB1 hN1=>Br (cs:=[(I a3.1.1),u3,u4]) hC1 z z z fun b2 w2 hC2 hB2 hN2=>Br (cs:=[(I a4.1.1),u5,u6]) hC2 z z z fun b3 w3 hC3 hB3 hN3=>Ad z z<|Ab<|be hF fun r1 hr1 hF=>BI (fun l w=>∃x1:Bool,x1=r1∧l=[(8,(.bool x1))]∧Below w3.heap.size w3 w∧Ctx [] w0 w []) ?_ ?_
 ·refine Bg<|Ae z z<|Aq hC3 2 z z Cy z z<|Au [(I a3.1.1),u3,u4] hC3 1 z z z Bm AT z z<|be hr1 fun x2 hr2 hr1=>cb C7 z z (c_M_FitsSelf a1 u1 (g1.now hC3.keep) a2 u2 (g2.now hC3.keep) ((a3.1.1,a3.1.2),a3.2) u3 (g3.now hC3.keep) u4 (g4.now hC3.keep) x2 hr2) fun w5 hB5=>have hC5:=hC3.grow hB5;Ae z z<|Bz (fun hc1=>?_) (fun hc1=>?_)
  ·replace hr1:=A7 hr1 hc1
   refine Ah z z<|Ae z z<|Ah z z<|Aq hC5 2 z z Cy z z<|Ah z z<|Au [(I a4.1.1),u5,u6] hC5 0 z z z Bm AT z z<|be hr1 fun x3 hr3 hr1=>Ah z z<|cb C7 z z (c_M_FitsSelf a1 u1 (g1.now hC5.keep) a2 u2 (g2.now hC5.keep) ((a4.1.1,a4.1.2),a4.2) u5 (g5.now hC5.keep) u6 (g6.now hC5.keep) x3 hr3) fun w6 hB6=>have hC6:=hC5.grow hB6;AW z z z<|Ae z z<|Bz (fun hc2=>?_) (fun hc2=>?_)
   ·replace hr1:=A7 hr1 hc2
    refine Ah z z<|fd AK Bp z z z z<|Ah z z<|Aq hC6 1 z z BA z z<|Ah z z<|BP z z<|be hr1 fun x4 hr4 hr1=>Ah z z<|cb CX z z (c_Slices_ContainsFunc_Limpl_Fact_impl_Fact_M_Disagree_c1 a3.2 u4 (g4.now hC6.keep) b3 ((a4.1.1,a4.1.2),a4.2) (hC6.boxAt 0 z (repw_pair (repw_pair repw_int (repw_slice (g5.now hC6.keep))) (repw_slice (g6.now hC6.keep)))) b1 a2 (hC6.boxAt 2 z (repw_slice (g2.now hC6.keep))) x4 hr4) fun w7 hB7=>have hC7:=hC6.grow hB7;Ah z z<|Ae z z<|Bz (fun hc3=>?_) (fun hc3=>?_)
    ·replace hr1:=A7 hr1 hc3
     refine gs z z z z<|gs z z z z<|gs z z z z<|gs z z z z<|Ah z z<|AW z z z<|AW z z z<|Ad z z<|Ab<|?_
     obtain rfl:=Aa hr1
     have hC8:=hC7.h0
     exact Am (l':=[(8,(.bool true))]) ⟨z,Aj⟩<|⟨true,z,z,(((Ao hB5).then hB6).then hB7).below,hC8⟩
    replace hr1:=A8 hr1 hc3
    refine Ah z z<|fd AK Bp z z z z<|Ah z z<|Aq hC7 0 z z BA z z<|Ah z z<|BP z z<|be hr1 fun x5 hr5 hr1=>Ah z z<|cb CX z z (c_Slices_ContainsFunc_Limpl_Fact_impl_Fact_M_Disagree_c2 a4.2 u6 (g6.now hC7.keep) b2 ((a3.1.1,a3.1.2),a3.2) (hC7.boxAt 1 z (repw_pair (repw_pair repw_int (repw_slice (g3.now hC7.keep))) (repw_slice (g4.now hC7.keep)))) b1 a2 (hC7.boxAt 2 z (repw_slice (g2.now hC7.keep))) x5 hr5) fun w9 hB8=>have hC9:=hC7.grow hB8;Ah z z<|AZ z z z<|AW z z z<|Ad z z<|Ab<|?_
    obtain rfl:=Aa hr1
    have hC10:=hC9.h0
    exact Am (l':=[(8,(.bool x5))]) ⟨z,Aj⟩<|⟨x5,z,z,((((Ao hB5).then hB6).then hB7).then hB8).below,hC10⟩
   replace hr1:=A8 hr1 hc2
   refine gs z z z z<|gs z z z z<|gs z z z z<|gs z z z z<|gs z z z z<|gs z z z z<|gs z z z z<|gs z z z z<|gs z z z z<|gs z z z z<|AZ z z z<|Ad z z<|Ab<|?_
   obtain rfl:=Aa hr1
   have hC11:=hC6.h0
   exact Am (l':=[(8,(.bool false))]) ⟨z,Aj⟩<|⟨false,z,z,((Ao hB5).then hB6).below,hC11⟩
  replace hr1:=A8 hr1 hc1
  refine gs z z z z<|gs z z z z<|gs z z z z<|gs z z z z<|AZ z z z<|Ae z z<|gs z z z z<|gs z z z z<|gs z z z z<|gs z z z z<|gs z z z z<|gs z z z z<|gs z z z z<|gs z z z z<|gs z z z z<|gs z z z z<|AZ z z z<|Ad z z<|Ab<|?_
  obtain rfl:=Aa hr1
  have hC12:=hC5.h0
  exact Am (l':=[(8,(.bool false))]) ⟨z,Aj⟩<|⟨false,z,z,(Ao hB5).below,hC12⟩
 rintro _ w4 ⟨x1,rfl,rfl,hB4,hC4⟩
 try dsimp only at hF
 refine AL ?_
 obtain rfl:=Aa hF
 exact A2 z z<|⟨_,z,AN hC4 _⟩
theorem c_M_FirstConflict_c1 {w0:World} (a1:((Int × (List Int)) × (List (Int × (List Int))))) (u1:Value) (g1:RO [] w0 u1 a1.1.2) (u2:Value) (g2:RO [] w0 u2 a1.2) (pb1:Nat) (ax1:(List Int)) (g3:ROAt [] w0 pb1 0 ax1) (pb2:Nat) (ax2:(List (Int × (List Int) × Int × Int × Int))) (g4:ROAt [] w0 pb2 0 ax2) (pb3:Nat) (ax3:((Int × (List Int)) × (List (Int × (List Int))))) (g5:ROAt [] w0 pb3 0 ax3) (rr:Bool) (hF:M.FirstConflict_c1 a1 ax1 ax2 ax3=some rr) :
 Calls Tryz.prog 67 [(.agg #[(I a1.1.1),u1,u2]),(ptr pb1 0),(ptr pb2 0),(ptr pb3 0)].toArray w0 fun e w'=>∃v,e=.returned v∧Res w0 rr v w':=by
 refine Ax Tryz.func67 z z ?_
 have hC0:=A5 w0
 unfold M.FirstConflict_c1 at hF
 refine Ac<|Br (cs:=[(I a1.1.1),u1,u2]) hC0 z z z fun b1 w1 hC1 hB1 hN1=>Ad z z<|Ab<|Ac<|AI ty24 g3 hC1.keep z z fun v1 h1=>AI ty25 g4 hC1.keep z z fun v2 h2=>Au [(I a1.1.1),u1,u2] hC1 0 z z z Bm AT z z<|AI ty46 g5 hC1.keep z z fun v3 h3=>?_
 obtain ⟨v4,v5,rfl,h4,h5⟩:=Cr h3
 refine be hF fun x1 hr1 hF=>cb CY z z (c_M_Disagree ax1 v1 (h1.now hC1.keep) ax2 v2 (h2.now hC1.keep) ((a1.1.1,a1.1.2),a1.2) u1 (g1.now hC1.keep) u2 (g2.now hC1.keep) ax3 v4 (h4.now hC1.keep) v5 (h5.now hC1.keep) x1 hr1) fun w2 hB2=>have hC2:=hC1.grow hB2;Ad z z<|Ab<|AL<|?_
 obtain rfl:=Aa hF
 exact A2 z z<|⟨_,z,AN hC2 _⟩
theorem c_Slices_IndexFunc_Limpl_Told_impl_Told_M_FirstConflict_c1 {w0:World} (a1:(List ((Int × (List Int)) × (List (Int × (List Int)))))) (u1:Value) (g1:RO [] w0 u1 a1) (pb1:Nat) (ax1:(List Int)) (g2:ROAt [] w0 pb1 0 ax1) (pb2:Nat) (ax2:(List (Int × (List Int) × Int × Int × Int))) (g3:ROAt [] w0 pb2 0 ax2) (pb3:Nat) (ax3:((Int × (List Int)) × (List (Int × (List Int))))) (g4:ROAt [] w0 pb3 0 ax3) (rr:Int) (hF:Slices.IndexFunc_Limpl_Told_impl_Told_M_FirstConflict_c1 a1 ax1 ax2 ax3=some rr) :
 Calls Tryz.prog 66 [u1,(.func (.func 67) #[] #[(ptr pb1 0),(ptr pb2 0),(ptr pb3 0)])].toArray w0 fun e w'=>∃v,e=.returned v∧Res w0 rr v w':=by
 refine Ax Tryz.func66 z z ?_
 have hC0:=A5 w0
 unfold Slices.IndexFunc_Limpl_Told_impl_Told_M_FirstConflict_c1 at hF
 refine Ac<|Ad z z<|Ab<|A6<|Ac<|Ae z z<|Bc A0 g1 z z<|Ae z z<|Ab<|be hF fun r1 hr1 hF=>Bi (fun l w=>.inl ()=r1∧l=[]∧Below w0.heap.size w0 w∧Ctx [] w0 w []) ?_ ?_
 ·refine AJ<|wS (l':=[(0,u1),(1,(.func (.func 67) #[] #[(ptr pb1 0),(ptr pb2 0),(ptr pb3 0)])),(7,(I (List.length a1:Int))),(8,(I 0))]) ⟨z,z,z,z,Aj⟩<|B2 (fun k l w=>∃x1:Int,l=[(0,u1),(1,(.func (.func 67) #[] #[(ptr pb1 0),(ptr pb2 0),(ptr pb3 0)])),(7,(I (List.length a1:Int))),(8,(I x1))]∧Below w0.heap.size w0 w∧Ctx [] w0 w []∧Slices.IndexFunc_Limpl_Told_impl_Told_M_FirstConflict_c1_l1 a1 ax1 ax2 ax3 k x1=some r1) FUEL ⟨0,z,(Al _ _),hC0,hr1⟩<|?_
  clear hr1
  rintro k1 _ w1 ⟨x1,rfl,hB1,hC1,hL1⟩
  cases k1 with
  | zero=>rw [Slices.IndexFunc_Limpl_Told_impl_Told_M_FirstConflict_c1_l1] at hL1; cases hL1
  | succ k1 =>
   rw [Slices.IndexFunc_Limpl_Told_impl_Told_M_FirstConflict_c1_l1] at hL1
   refine Ac<|Bv z z z<|Ab<|A6<|AE z (fun hc1=>?_) (fun hc1=>?_)
   ·replace hL1:=A7 hL1 hc1
    refine AF<|Ap<|A6<|AJ<|Ac<|Ae z z<|Ad z z<|Ab<|Ac<|Ae z z<|Ae z z<|Ae z z<|be hL1 fun x2 hx1 hL1=>AH A0 ty46 g1 hx1 z z z fun b1 o1 h1=>AI ty46 h1 hC1.keep z z fun v1 h2=>?_
    obtain ⟨v2,v3,rfl,h3,h4⟩:=Cr h2
    refine be hL1 fun x3 hr2 hL1=>BT (cap:=[(ptr pb1 0),(ptr pb2 0),(ptr pb3 0)]) Tryz.call67 z z z (c_M_FirstConflict_c1 x2 v2 (h3.now hC1.keep) v3 (h4.now hC1.keep) pb1 ax1 (g2.now hC1.keep) pb2 ax2 (g3.now hC1.keep) pb3 ax3 (g4.now hC1.keep) x3 hr2) fun _ w2 hv1=>?_
    obtain ⟨rfl,hB2⟩:=BU hv1
    have hC2:=hC1.grow hB2
    refine Ab<|AE z (fun hc2=>?_) (fun hc2=>?_)
    ·replace hL1:=A7 hL1 hc2
     refine Ac<|Ae z z<|Ad z z<|Ab<|AL<|Bd<|Av<|Av<|Bd<|Av<|Av<|?_
     obtain rfl:=Aa hL1
     dsimp only at hF
     obtain rfl:=Aa hF
     exact A2 z z<|⟨_,z,B4 hC2 _⟩
    replace hL1:=A8 hL1 hc2
    exact AF<|AU<|Ap<|Bg<|Bn z z z<|Ae z z<|Ab<|Am (l':=[(0,u1),(1,(.func (.func 67) #[] #[(ptr pb1 0),(ptr pb2 0),(ptr pb3 0)])),(7,(I (List.length a1:Int))),(8,(I (w64 (x1+1))))]) ⟨z,z,z,z,Aj⟩<|⟨k1,A3 _,w64 (x1+1),z,((Ao hB1).then hB2).below,hC2,hL1⟩
   replace hL1:=A8 hL1 hc1
   refine B1 (A9 (A9 (Bk ?_)))
   obtain rfl:=Aa hL1
   exact Am (l':=[]) Aj<|⟨z,z,(Ao hB1).below,hC1⟩
 rintro l2 _ w3 hs2 ⟨rfl,rfl,hB3,hC3⟩
 try dsimp only at hF
 refine AY hs2 ?_
 clear hs2
 refine Ac<|Ad z z<|Ab<|AL<|?_
 obtain rfl:=Aa hF
 exact A2 z z<|⟨_,z,B4 hC3 _⟩
theorem c_M_FirstConflict {w0:World} (a1:(List Int)) (u1:Value) (g1:RO [] w0 u1 a1) (a2:(List (Int × (List Int) × Int × Int × Int))) (u2:Value) (g2:RO [] w0 u2 a2) (a3:(List ((Int × (List Int)) × (List (Int × (List Int)))))) (u3:Value) (g3:RO [] w0 u3 a3) (rr:(Int × Int × Bool)) (hF:M.FirstConflict a1 a2 a3=some rr) :
 Calls Tryz.prog 11 [u1,u2,u3].toArray w0 fun e w'=>∃v,e=.returned v∧Res3 w0 rr.1 rr.2.1 rr.2.2 v w':=by
 refine Ax Tryz.func11 z z ?_
 have hC0:=A5 w0
 unfold M.FirstConflict at hF
 refine Ac<|Br (cs:=[u1]) hC0 (B7 g1) z z fun b1 w1 hC1 hB1 hN1=>Br (cs:=[u2]) hC1 (B7 g2) z z fun b2 w2 hC2 hB2 hN2=>Ad z z<|Ad z z<|Ad z z<|Ab<|A6<|Ac<|Ae z z<|Bc A0 g3 z z<|Ae z z<|Ab<|be hF fun r1 hr1 hF=>Bi (fun l w=>.inl ()=r1∧l=[]∧Ctx [] w0 w []) ?_ ?_
 ·refine AJ<|wS (l':=[(2,u3),(3,(ptr b1 0)),(4,(ptr b2 0)),(12,u3),(13,(I (List.length a3:Int))),(14,(I 0))]) ⟨z,z,z,z,z,z,Aj⟩<|B2 (fun k l w=>∃x1:Int,l=[(2,u3),(3,(ptr b1 0)),(4,(ptr b2 0)),(12,u3),(13,(I (List.length a3:Int))),(14,(I x1))]∧Ctx [] w0 w [Ag b2 [u2],Ag b1 [u1]]∧M.FirstConflict_l1 a3 a1 a2 k x1=some r1) FUEL ⟨0,z,hC2,hr1⟩<|?_
  clear hr1
  rintro k1 _ w3 ⟨x1,rfl,hC3,hL1⟩
  cases k1 with
  | zero=>rw [M.FirstConflict_l1] at hL1; cases hL1
  | succ k1 =>
   rw [M.FirstConflict_l1] at hL1
   refine Ac<|Bv z z z<|Ab<|A6<|AE z (fun hc1=>?_) (fun hc1=>?_)
   ·replace hL1:=A7 hL1 hc1
    refine AF<|Ap<|A6<|AJ<|Ac<|Ae z z<|be hL1 fun x2 hx1 hL1=>AH A0 ty46 g3 hx1 z z z fun b3 o1 h1=>AI ty46 h1 hC3.keep z z fun v1 h2=>?_
    obtain ⟨v2,v3,rfl,h3,h4⟩:=Cr h2
    refine Bw hC3 zero46 z z fun b4 w4 hC4 hB4 hN3=>Ad z z<|AA (cs':=[(I x2.1.1),v2,v3]) (new:=[(I x2.1.1),v2,v3]) hC4 0 z z (fac z<|fac (B0 h3)<|fac (B0 h4)<|fa0) z AT z z fun w5 hC5 hKp1=>?_
    try dsimp only [List.set] at hC5
    have hk1:=AO (Ao hB4) hN3 hKp1
    refine Ab<|A6<|Ac<|Aq hC5 2 z z AM z z<|Aq hC5 1 z z Cy z z<|Au [(I x2.1.1),v2,v3] hC5 0 z z z Bm AT z z<|be hL1 fun x3 hr2 hL1=>cb C7 z z (c_M_FitsSelf a1 u1 (g1.now hC5.keep) a2 u2 (g2.now hC5.keep) ((x2.1.1,x2.1.2),x2.2) v2 (h3.now hC5.keep) v3 (h4.now hC5.keep) x3 hr2) fun w6 hB5=>have hC6:=hC5.grow hB5;B3 z z<|Ab<|AE z (fun hc2=>?_) (fun hc2=>?_)
    ·replace hL1:=A7 hL1 hc2
     refine Ac<|Ae z z<|Ae z z<|Ad z z<|Ad z z<|Ad z z<|Ab<|AL<|Av<|Bd<|Av<|Av<|Bd<|Av<|Av<|?_
     obtain rfl:=Aa hL1
     dsimp only at hF
     obtain rfl:=Aa hF
     refine CG z z z z ?_
     have hC7:=hC6.triv (C2 (true))
     have hC8:=hC7.triv (Bx (x1))
     have hC9:=hC8.triv (Bx (x1))
     exact ⟨_,z,res3_of hC9⟩
    replace hL1:=A8 hL1 hc2
    refine AF<|Ap<|Ac<|Ae z z<|Ae z z<|be hL1 fun x4 hx2 hL1=>WL_slice_h A0 ty46 g3 hx2 z z z fun v4 h5=>BP z z<|be hL1 fun x5 hr3 hL1=>ci Tryz.call66 z z (c_Slices_IndexFunc_Limpl_Told_impl_Told_M_FirstConflict_c1 x4 v4 (h5.now hC6.keep) b1 a1 (hC6.boxAt 2 z (repw_slice (g1.now hC6.keep))) b2 a2 (hC6.boxAt 1 z (repw_slice (g2.now hC6.keep))) b4 ((x2.1.1,x2.1.2),x2.2) (hC6.boxAt 0 z (repw_pair (repw_pair repw_int (repw_slice (h3.now hC6.keep))) (repw_slice (h4.now hC6.keep)))) x5 hr3) fun w7 hB6=>have hC10:=hC6.grow hB6;Ad z z<|Ab<|Ac<|Ae z z<|Cf z z z<|Ab<|AE z (fun hc3=>?_) (fun hc3=>?_)
    ·replace hL1:=A7 hL1 hc3
     refine Ac<|Ae z z<|Ae z z<|Ad z z<|Ad z z<|Ad z z<|Ab<|AL<|Bd<|Av<|Av<|Bd<|Av<|Av<|?_
     obtain rfl:=Aa hL1
     dsimp only at hF
     obtain rfl:=Aa hF
     refine CG z z z z ?_
     have hC11:=hC10.triv (C2 (true))
     have hC12:=hC11.triv (Bx (x1))
     have hC13:=hC12.triv (Bx (x5))
     exact ⟨_,z,res3_of hC13⟩
    replace hL1:=A8 hL1 hc3
    exact AF<|AU<|Ap<|Bg<|Bn z z z<|Ae z z<|Ab<|have hC14:=hC10.f2;have hC15:=hC14.f2;have hC16:=hC15.h2;Am (l':=[(2,u3),(3,(ptr b1 0)),(4,(ptr b2 0)),(12,u3),(13,(I (List.length a3:Int))),(14,(I (w64 (x1+1))))]) ⟨z,z,z,z,z,z,Aj⟩<|⟨k1,A3 _,w64 (x1+1),z,hC16,hL1⟩
   replace hL1:=A8 hL1 hc1
   refine B1 (A9 (A9 (Bk ?_)))
   obtain rfl:=Aa hL1
   have hC17:=hC3.h0
   exact Am (l':=[]) Aj<|⟨z,z,hC17⟩
 rintro l2 _ w9 hs2 ⟨rfl,rfl,hC18⟩
 try dsimp only at hF
 refine AY hs2 ?_
 clear hs2
 refine Ac<|Ad z z<|Ad z z<|Ad z z<|Ab<|AL<|?_
 obtain rfl:=Aa hF
 refine CG z z z z ?_
 have hC19:=hC18.triv (C2 (false))
 have hC20:=hC19.triv (Bx ((-1)))
 have hC21:=hC20.triv (Bx ((-1)))
 exact ⟨_,z,res3_of hC21⟩
theorem c_S_IsTold {w0:World} (a1:(List Int)) (u1:Value) (g1:RO [] w0 u1 a1) (a2:(List (Int × (List Int) × Int × Int × Int))) (u2:Value) (g2:RO [] w0 u2 a2) (a3:((Int × (List Int)) × (List (Int × (List Int))))) (u3:Value) (g3:RO [] w0 u3 a3.1.2) (u4:Value) (g4:RO [] w0 u4 a3.2) (rr:Bool) (hF:S.IsTold a1 a2 a3=some rr) :
 Calls Tryz.prog 32 [u1,u2,(.agg #[(I a3.1.1),u3,u4])].toArray w0 fun e w'=>∃v,e=.returned v∧Res w0 rr v w':=by
 refine Ax Tryz.func32 z z ?_
 have hC0:=A5 w0
 unfold S.IsTold at hF
 refine Ac<|Br (cs:=[(I a3.1.1),u3,u4]) hC0 z z z fun b1 w1 hC1 hB1 hN1=>Ad z z<|Ab<|be hF fun r1 hr1 hF=>BI (fun l w=>∃x1:Bool,x1=r1∧l=[(6,(.bool x1))]∧Below w1.heap.size w1 w∧Ctx [] w0 w []) ?_ ?_
 ·refine Bg<|Ae z z<|Ae z z<|fd AK AV z z z z<|Au [(I a3.1.1),u3] hC1 0 z z z Bu AV z z<|be hr1 fun x2 hr2 hr1=>cb Tryz.call100 z z (c_S_IsAccess a1 u1 (g1.now hC1.keep) a2 u2 (g2.now hC1.keep) (a3.1.1,a3.1.2) u3 (g3.now hC1.keep) x2 hr2) fun w3 hB3=>have hC3:=hC1.grow hB3;Ae z z<|Bz (fun hc1=>?_) (fun hc1=>?_)
  ·replace hr1:=A7 hr1 hc1
   refine Ah z z<|Ae z z<|Ah z z<|fd AK Bp z z z z<|Ah z z<|Aq hC3 0 z z BA z z<|be hr1 fun x3 hr3 hr1=>Ah z z<|cb Tryz.call101 z z (c_S_AreFacts a1 u1 (g1.now hC3.keep) a3.2 u4 (g4.now hC3.keep) x3 hr3) fun w4 hB4=>have hC4:=hC3.grow hB4;AW z z z<|Ad z z<|Ab<|?_
   obtain rfl:=Aa hr1
   have hC5:=hC4.h0
   exact Am (l':=[(6,(.bool x3))]) ⟨z,Aj⟩<|⟨x3,z,z,((Ao hB3).then hB4).below,hC5⟩
  replace hr1:=A8 hr1 hc1
  refine gs z z z z<|gs z z z z<|gs z z z z<|gs z z z z<|AZ z z z<|Ad z z<|Ab<|?_
  obtain rfl:=Aa hr1
  have hC6:=hC3.h0
  exact Am (l':=[(6,(.bool false))]) ⟨z,Aj⟩<|⟨false,z,z,(Ao hB3).below,hC6⟩
 rintro _ w2 ⟨x1,rfl,rfl,hB2,hC2⟩
 try dsimp only at hF
 refine AL ?_
 obtain rfl:=Aa hF
 exact A2 z z<|⟨_,z,AN hC2 _⟩
theorem c_S_FitsSelf {w0:World} (a1:(List Int)) (u1:Value) (g1:RO [] w0 u1 a1) (a2:(List (Int × (List Int) × Int × Int × Int))) (u2:Value) (g2:RO [] w0 u2 a2) (a3:((Int × (List Int)) × (List (Int × (List Int))))) (u3:Value) (g3:RO [] w0 u3 a3.1.2) (u4:Value) (g4:RO [] w0 u4 a3.2) (rr:Bool) (hF:S.FitsSelf a1 a2 a3=some rr) :
 Calls Tryz.prog 30 [u1,u2,(.agg #[(I a3.1.1),u3,u4])].toArray w0 fun e w'=>∃v,e=.returned v∧Res w0 rr v w':=by
 refine Ax Tryz.func30 z z ?_
 have hC0:=A5 w0
 unfold S.FitsSelf at hF
 refine Ac<|Br (cs:=[(I a3.1.1),u3,u4]) hC0 z z z fun b1 w1 hC1 hB1 hN1=>Ad z z<|Ab<|A6<|Ac<|Ae z z<|Ae z z<|Au [(I a3.1.1),u3,u4] hC1 0 z z z Bm AT z z<|be hF fun x1 hr1 hF=>cb Tryz.call32 z z (c_S_IsTold a1 u1 (g1.now hC1.keep) a2 u2 (g2.now hC1.keep) ((a3.1.1,a3.1.2),a3.2) u3 (g3.now hC1.keep) u4 (g4.now hC1.keep) x1 hr1) fun w2 hB2=>have hC2:=hC1.grow hB2;B3 z z<|Ab<|AE z (fun hc1=>?_) (fun hc1=>?_)
 ·replace hF:=A7 hF hc1
  refine Ac<|Ad z z<|Ab<|AL<|Av<|?_
  obtain rfl:=Aa hF
  exact A2 z z<|⟨_,z,AN hC2 _⟩
 replace hF:=A8 hF hc1
 refine AF<|Ap<|Ac<|Ae z z<|fd AK AV z z z z<|fd AQ Ay z z z z<|Aq hC2 0 z z AR z z<|be hF fun x2 hx1 hF=>AH Be ty93 g2 hx1 z z z fun b2 o1 h1=>AI ty93 h1 hC2.keep z z fun v1 h2=>?_
 obtain ⟨v2,rfl,h3⟩:=CE h2
 refine Bw hC2 zero93 z z fun b3 w3 hC3 hB3 hN2=>AA (cs':=[(I x2.1),v2,(I x2.2.2.1),(I x2.2.2.2.1),(I x2.2.2.2.2)]) (new:=[(I x2.1),v2,(I x2.2.2.1),(I x2.2.2.2.1),(I x2.2.2.2.2)]) hC3 0 z z (fac z<|fac (B0 h3)<|fac z<|fac z<|fac z<|fa0) z B6 z z fun w4 hC4 hKp1=>?_
 try dsimp only [List.set] at hC4
 have hk1:=AO (((Ao hB1).then hB2).then hB3) (AS ((Ao hB1).then hB2).size hN2) hKp1
 have hk2:=AO ((Ao hB2).then hB3) (AS (Ao hB2).size hN2) hKp1
 have hk3:=AO (Ao hB3) hN2 hKp1
 refine Ab<|A6<|Ac<|Ad z z<|Ab<|be hF fun r1 hr2 hF=>Bi (fun l w=>.inl ()=r1∧l=[(5,(ptr b1 0)),(7,(ptr b3 0))]∧Below w4.heap.size w4 w∧Ctx [] w0 w [Ag b3 [(I x2.1),v2,(I x2.2.2.1),(I x2.2.2.2.1),(I x2.2.2.2.2)],Ag b1 [(I a3.1.1),u3,u4]]) ?_ ?_
 ·refine AJ<|wS (l':=[(5,(ptr b1 0)),(7,(ptr b3 0)),(8,(I 0))]) ⟨z,z,z,Aj⟩<|B2 (fun k l w=>∃x3:Int,l=[(5,(ptr b1 0)),(7,(ptr b3 0)),(8,(I x3))]∧Below w4.heap.size w4 w∧Ctx [] w0 w [Ag b3 [(I x2.1),v2,(I x2.2.2.1),(I x2.2.2.2.1),(I x2.2.2.2.2)],Ag b1 [(I a3.1.1),u3,u4]]∧S.FitsSelf_l1 a3 x2 k x3=some r1) FUEL ⟨0,z,(Al _ _),hC4,hr2⟩<|?_
  clear hr2
  rintro k1 _ w5 ⟨x3,rfl,hB4,hC5,hL1⟩
  cases k1 with
  | zero=>rw [S.FitsSelf_l1] at hL1; cases hL1
  | succ k1 =>
   rw [S.FitsSelf_l1] at hL1
   refine A6<|Ac<|Ae z z<|fd AK Bp z z z z<|Aq hC5 1 z z BA z z<|Bc Ai g4 z z<|Bv z z z<|Ab<|AE z (fun hc2=>?_) (fun hc2=>?_)
   ·replace hL1:=A7 hL1 hc2
    refine AF<|Ap<|A6<|AJ<|A6<|W_drawn 11 z hmix fun w6 hB5=>have hC6:=hC5.grow hB5;tf 1 AK AV z z z z z<|tf 2 AQ Az z z z z z<|tf 4 AK Bp z z z z z<|tm 6 z z z<|be hL1 fun x4 hx2 hL1=>wAS (l':=[(5,(ptr b1 0)),(7,(ptr b3 0)),(8,(I x3)),(20,(I x3)),(21,(ptr b1 2)),(22,u4),(23,(I (List.length a3.2:Int))),(24,(.bool (decide (x3 < (List.length a3.2:Int))))),(28,(ptr b1 0)),(29,(ptr b1 1)),(31,(ptr b1 2)),(33,(I x3))]) ⟨z,z,z,z,z,z,z,z,z,z,z,z,Aj⟩<|Bq [⟨0,[],fun vs=>Ba (.agg #[(I x2.1),v2,(I x2.2.2.1),(I x2.2.2.2.1),(I x2.2.2.2.2)]),[]⟩,⟨3,[],fun vs=>Ba u3,[]⟩,⟨5,[],fun vs=>Ba u4,[]⟩,⟨7,[],fun vs=>BZ [] w0 x4,[]⟩,⟨8,[],fun vs=>Ce [] w0 x4,[]⟩] [[],[],[],[5],[7]] 2 z (by kernel_rfl) (by kernel_rfl) z ?_ ?_
    ·refine An z ?_ ?_
     ·intro w7 hB6
      refine At<|⟨_,z,?_⟩
      exact Au [(I x2.1),v2,(I x2.2.2.1),(I x2.2.2.2.1),(I x2.2.2.2.2)] (hC6.grow hB6) 0 z z z BQ B6 z z<|Ab<|Aw (Al _ _) z z ⟨z,z⟩
     refine An z ?_ ?_
     ·intro w7 hB6
      refine At<|⟨_,z,?_⟩
      exact Aq (hC6.grow hB6) 1 z z AM z z<|Ab<|Aw (Al _ _) z z ⟨z,z⟩
     refine An z ?_ ?_
     ·intro w7 hB6
      refine At<|⟨_,z,?_⟩
      exact Aq (hC6.grow hB6) 1 z z BA z z<|Ab<|Aw (Al _ _) z z ⟨z,z⟩
     refine An z ?_ ?_
     ·intro w7 hB6
      refine AD z z z ?_
      rintro _ _ ⟨rfl,rfl⟩ _
      refine At<|⟨_,z,?_⟩
      exact AH Ai ty88 g4 hx2 z z z fun b4 o2 h4=>Ab<|Aw (Al _ _) z z ⟨z,_,_,z,h4⟩
     refine An z ?_ ?_
     ·intro w7 hB6
      refine AD z z z ?_
      rintro _ _ ⟨rfl,b4,o2,rfl,h4⟩ _
      refine At<|⟨_,z,?_⟩
      exact AI ty88 h4 (hC6.keep.then hB6) z z fun v5 h7=>Ab<|Aw (Al _ _) z z ⟨z,h7⟩
     exact Bj
    intro w9 hB7
    refine Ar z z z ?_
    rintro _ _ ⟨rfl,rfl⟩
    refine Ar z z z ?_
    rintro _ _ ⟨rfl,rfl⟩
    refine Ar z z z ?_
    rintro _ _ ⟨rfl,rfl⟩
    refine Ar z z z ?_
    rintro _ _ ⟨rfl,b4,o2,rfl,h4⟩
    refine Ar z z z ?_
    rintro v5 _ ⟨rfl,h7⟩
    obtain ⟨v4,rfl,h6⟩:=BD h7
    refine Bt fun hn1 hb1=>have hC7:=hC6.grow hB7;be hL1 fun x5 hr3 hL1=>oe 9 z<|cb CV z z (c_S_l5Fits (x2.1,x2.2.1,x2.2.2.1,x2.2.2.2.1,x2.2.2.2.2) v2 (h3.now hC7.keep) a3.1.2 u3 (g3.now hC7.keep) x4 v4 (h6.now hC7.keep) x5 hr3) fun w10 hB8=>have hC8:=hC7.grow hB8;Ab<|tk 10 z z (Cl z)<|B3 z z<|Ab<|dn<|Ap<|AE z (fun hc3=>?_) (fun hc3=>?_)
    ·replace hL1:=A7 hL1 hc3
     refine Ac<|Ad z z<|Ab<|AL<|Bd<|Av<|Av<|Bd<|Av<|Av<|?_
     obtain rfl:=Aa hL1
     dsimp only at hF
     obtain rfl:=Aa hF
     exact A2 z z<|⟨_,z,AN hC8 _⟩
    replace hL1:=A8 hL1 hc3
    exact AF<|AU<|Ap<|Bg<|Ae z z<|Bn z z z<|Ad z z<|Ab<|Am (l':=[(5,(ptr b1 0)),(7,(ptr b3 0)),(8,(I (w64 (x3+1))))]) ⟨z,z,z,Aj⟩<|⟨k1,A3 _,w64 (x3+1),z,((((Ao hB4).then hB5).then hB7).then hB8).below,hC8,hL1⟩
   replace hL1:=A8 hL1 hc2
   refine B1 (A9 (A9 (Bk ?_)))
   obtain rfl:=Aa hL1
   exact Am (l':=[(5,(ptr b1 0)),(7,(ptr b3 0))]) ⟨z,z,Aj⟩<|⟨z,z,(Ao hB4).below,hC5⟩
 rintro l2 _ w11 hs2 ⟨rfl,rfl,hB9,hC9⟩
 try dsimp only at hF
 refine AY hs2 ?_
 clear hs2
 refine be hF fun r2 hr4 hF=>BI (fun l w=>∃x6:Bool,x6=r2∧l=[(6,(.bool x6))]∧Below w11.heap.size w11 w∧Ctx [] w0 w []) ?_ ?_
 ·refine Bg<|fd AB Ay z z z z<|Aq hC9 0 z z AR z z<|BM z z z<|Ae z z<|Bz (fun hc4=>?_) (fun hc4=>?_)
  ·replace hr4:=A7 hr4 hc4
   refine gs z z z z<|gs z z z z<|gs z z z z<|gs z z z z<|gs z z z z<|gs z z z z<|AW z z z<|Ad z z<|Ab<|?_
   obtain rfl:=Aa hr4
   have hC11:=hC9.h0
   exact Am (l':=[(6,(.bool true))]) ⟨z,Aj⟩<|⟨true,z,z,(Al _ _),hC11⟩
  replace hr4:=A8 hr4 hc4
  refine Ah z z<|fd AK Bp z z z z<|Ah z z<|Aq hC9 1 z z BA z z<|Ah z z<|Bc Ai g4 z z<|Ah z z<|fd AB Ay z z z z<|Ah z z<|Aq hC9 0 z z AR z z<|Ah z z<|Cp z z z<|AZ z z z<|Ad z z<|Ab<|?_
  obtain rfl:=Aa hr4
  have hC12:=hC9.h0
  exact Am (l':=[(6,(.bool (decide ((List.length a3.2:Int) ≤ x2.2.2.1))))]) ⟨z,Aj⟩<|⟨(decide ((List.length a3.2:Int) ≤ x2.2.2.1)),z,z,(Al _ _),hC12⟩
 rintro _ w12 ⟨x6,rfl,rfl,hB10,hC10⟩
 try dsimp only at hF
 refine AL ?_
 obtain rfl:=Aa hF
 exact A2 z z<|⟨_,z,AN hC10 _⟩
theorem c_S_l28Lacks {w0:World} (a1:(List (Int × (List Int) × Int × Int × Int))) (u1:Value) (g1:RO [] w0 u1 a1) (a2:((Int × (List Int)) × (List (Int × (List Int))))) (u2:Value) (g2:RO [] w0 u2 a2.1.2) (u3:Value) (g3:RO [] w0 u3 a2.2) (a3:((Int × (List Int)) × (List (Int × (List Int))))) (u4:Value) (g4:RO [] w0 u4 a3.1.2) (u5:Value) (g5:RO [] w0 u5 a3.2) (rr:Bool) (hF:S.l28Lacks a1 a2 a3=some rr) :
 Calls Tryz.prog 96 [u1,(.agg #[(I a2.1.1),u2,u3]),(.agg #[(I a3.1.1),u4,u5])].toArray w0 fun e w'=>∃v,e=.returned v∧Res w0 rr v w':=by
 refine Ax Tryz.func96 z z ?_
 have hC0:=A5 w0
 unfold S.l28Lacks at hF
 refine Ac<|Br (cs:=[(I a2.1.1),u2,u3]) hC0 z z z fun b1 w1 hC1 hB1 hN1=>Br (cs:=[(I a3.1.1),u4,u5]) hC1 z z z fun b2 w2 hC2 hB2 hN2=>Ad z z<|Ab<|Ac<|Ae z z<|fd AK AV z z z z<|fd AQ Ay z z z z<|Aq hC2 0 z z AR z z<|be hF fun x1 hx1 hF=>AH Be ty93 g1 hx1 z z z fun b3 o1 h1=>AI ty93 h1 hC2.keep z z fun v1 h2=>?_
 obtain ⟨v2,rfl,h3⟩:=CE h2
 refine Bw hC2 zero93 z z fun b4 w3 hC3 hB3 hN3=>AA (cs':=[(I x1.1),v2,(I x1.2.2.1),(I x1.2.2.2.1),(I x1.2.2.2.2)]) (new:=[(I x1.1),v2,(I x1.2.2.1),(I x1.2.2.2.1),(I x1.2.2.2.2)]) hC3 0 z z (fac z<|fac (B0 h3)<|fac z<|fac z<|fac z<|fa0) z B6 z z fun w4 hC4 hKp1=>?_
 try dsimp only [List.set] at hC4
 have hk1:=AO (((Ao hB1).then hB2).then hB3) (AS ((Ao hB1).then hB2).size hN3) hKp1
 have hk2:=AO ((Ao hB2).then hB3) (AS (Ao hB2).size hN3) hKp1
 have hk3:=AO (Ao hB3) hN3 hKp1
 refine Ab<|A6<|Ac<|Ad z z<|Ab<|be hF fun r1 hr1 hF=>Bi (fun l w=>.inl ()=r1∧l=[]∧Below w4.heap.size w4 w∧Ctx [] w0 w []) ?_ ?_
 ·refine AJ<|wS (l':=[(4,(ptr b1 0)),(5,(ptr b2 0)),(7,(ptr b4 0)),(8,(I 0))]) ⟨z,z,z,z,Aj⟩<|B2 (fun k l w=>∃x2:Int,l=[(4,(ptr b1 0)),(5,(ptr b2 0)),(7,(ptr b4 0)),(8,(I x2))]∧Below w4.heap.size w4 w∧Ctx [] w0 w [Ag b4 [(I x1.1),v2,(I x1.2.2.1),(I x1.2.2.2.1),(I x1.2.2.2.2)],Ag b2 [(I a3.1.1),u4,u5],Ag b1 [(I a2.1.1),u2,u3]]∧S.l28Lacks_l1 a2 x1 a3 k x2=some r1) FUEL ⟨0,z,(Al _ _),hC4,hr1⟩<|?_
  clear hr1
  rintro k1 _ w5 ⟨x2,rfl,hB4,hC5,hL1⟩
  cases k1 with
  | zero=>rw [S.l28Lacks_l1] at hL1; cases hL1
  | succ k1 =>
   rw [S.l28Lacks_l1] at hL1
   refine A6<|Ac<|Ae z z<|fd AK Bp z z z z<|Aq hC5 2 z z BA z z<|Bc Ai g3 z z<|Bv z z z<|Ab<|AE z (fun hc1=>?_) (fun hc1=>?_)
   ·replace hL1:=A7 hL1 hc1
    refine AF<|Ap<|A6<|AJ<|be hL1 fun r2 hr2 hL1=>BI (fun l w=>∃x3:Bool,x3=r2∧l=[(4,(ptr b1 0)),(5,(ptr b2 0)),(7,(ptr b4 0)),(8,(I x2)),(55,(.bool x3))]∧Below w5.heap.size w5 w∧Ctx [] w0 w [Ag b4 [(I x1.1),v2,(I x1.2.2.1),(I x1.2.2.2.1),(I x1.2.2.2.2)],Ag b2 [(I a3.1.1),u4,u5],Ag b1 [(I a2.1.1),u2,u3]]) ?_ ?_
    ·refine W_drawn 34 z hmix fun w7 hB6=>have hC7:=hC5.grow hB6;tf 1 AK AV z z z z z<|tf 2 AQ Az z z z z z<|tf 4 AK Bp z z z z z<|tm 6 z z z<|be hr2 fun x4 hx2 hr2=>wAS (l':=[(4,(ptr b1 0)),(5,(ptr b2 0)),(7,(ptr b4 0)),(8,(I x2)),(15,(I x2)),(16,(ptr b1 2)),(17,u3),(18,(I (List.length a2.2:Int))),(19,(.bool (decide (x2 < (List.length a2.2:Int))))),(23,(ptr b2 0)),(24,(ptr b2 1)),(26,(ptr b1 2)),(28,(I x2))]) ⟨z,z,z,z,z,z,z,z,z,z,z,z,z,Aj⟩<|Bq [⟨0,[],fun vs=>Ba (.agg #[(I x1.1),v2,(I x1.2.2.1),(I x1.2.2.2.1),(I x1.2.2.2.2)]),[]⟩,⟨3,[],fun vs=>Ba u4,[]⟩,⟨5,[],fun vs=>Ba u3,[]⟩,⟨7,[],fun vs=>BZ [] w0 x4,[]⟩,⟨8,[],fun vs=>Ce [] w0 x4,[]⟩] [[],[],[],[5],[7]] 25 z (by kernel_rfl) (by kernel_rfl) z ?_ ?_
     ·refine An z ?_ ?_
      ·intro w9 hB7
       refine At<|⟨_,z,?_⟩
       exact Au [(I x1.1),v2,(I x1.2.2.1),(I x1.2.2.2.1),(I x1.2.2.2.2)] (hC7.grow hB7) 0 z z z BQ B6 z z<|Ab<|Aw (Al _ _) z z ⟨z,z⟩
      refine An z ?_ ?_
      ·intro w9 hB7
       refine At<|⟨_,z,?_⟩
       exact Aq (hC7.grow hB7) 1 z z AM z z<|Ab<|Aw (Al _ _) z z ⟨z,z⟩
      refine An z ?_ ?_
      ·intro w9 hB7
       refine At<|⟨_,z,?_⟩
       exact Aq (hC7.grow hB7) 2 z z BA z z<|Ab<|Aw (Al _ _) z z ⟨z,z⟩
      refine An z ?_ ?_
      ·intro w9 hB7
       refine AD z z z ?_
       rintro _ _ ⟨rfl,rfl⟩ _
       refine At<|⟨_,z,?_⟩
       exact AH Ai ty88 g3 hx2 z z z fun b5 o2 h4=>Ab<|Aw (Al _ _) z z ⟨z,_,_,z,h4⟩
      refine An z ?_ ?_
      ·intro w9 hB7
       refine AD z z z ?_
       rintro _ _ ⟨rfl,b5,o2,rfl,h4⟩ _
       refine At<|⟨_,z,?_⟩
       exact AI ty88 h4 (hC7.keep.then hB7) z z fun v5 h7=>Ab<|Aw (Al _ _) z z ⟨z,h7⟩
      exact Bj
     intro w10 hB8
     refine Ar z z z ?_
     rintro _ _ ⟨rfl,rfl⟩
     refine Ar z z z ?_
     rintro _ _ ⟨rfl,rfl⟩
     refine Ar z z z ?_
     rintro _ _ ⟨rfl,rfl⟩
     refine Ar z z z ?_
     rintro _ _ ⟨rfl,b5,o2,rfl,h4⟩
     refine Ar z z z ?_
     rintro v5 _ ⟨rfl,h7⟩
     obtain ⟨v4,rfl,h6⟩:=BD h7
     refine Bt fun hn1 hb1=>have hC8:=hC7.grow hB8;be hr2 fun x5 hr3 hr2=>oe 9 z<|cb CV z z (c_S_l5Fits (x1.1,x1.2.1,x1.2.2.1,x1.2.2.2.1,x1.2.2.2.2) v2 (h3.now hC8.keep) a3.1.2 u4 (g4.now hC8.keep) x4 v4 (h6.now hC8.keep) x5 hr3) fun w11 hB9=>have hC9:=hC8.grow hB9;Ab<|tm 10 z z z<|BC (fun hc2=>?_) (fun hc2=>?_)
     ·replace hr2:=A7 hr2 hc2
      refine tg 11 z z z z (BB AK z z (fun w=>⟨_,Bp w⟩) z)<|Ah z z<|fd AK Bp z z z z<|Ab<|tg 13 z z z z (BB AK z z (fun w=>⟨_,Bp w⟩) z)<|Ah z z<|fd AK Bp z z z z<|Ab<|tn 15 z z z z z<|be hr2 fun x6 hx3 hr2=>wAS (l':=[(4,(ptr b1 0)),(5,(ptr b2 0)),(7,(ptr b4 0)),(8,(I x2)),(15,(I x2)),(16,(ptr b1 2)),(17,u3),(18,(I (List.length a2.2:Int))),(19,(.bool (decide (x2 < (List.length a2.2:Int))))),(22,(.agg #[(I x1.1),v2,(I x1.2.2.1),(I x1.2.2.2.1),(I x1.2.2.2.2)])),(23,(ptr b2 0)),(24,(ptr b2 1)),(25,u4),(26,(ptr b1 2)),(27,u3),(28,(I x2)),(29,(ptr b5 o2)),(30,(.agg #[(I x4.1),v4])),(31,(.bool x5)),(32,(.bool true)),(33,(ptr b2 2)),(35,(ptr b1 2)),(37,(I x2))]) ⟨z,z,z,z,z,z,z,z,z,z,z,z,z,z,z,z,z,z,z,z,z,z,z,Aj⟩<|Bq [⟨12,[],fun vs=>Ba u5,[]⟩,⟨14,[],fun vs=>Ba u3,[]⟩,⟨16,[],fun vs=>BZ [] w0 x6,[]⟩,⟨17,[],fun vs=>Ce [] w0 x6,[]⟩] [[],[],[14],[16]] 16 z (by kernel_rfl) (by kernel_rfl) z ?_ ?_
      ·refine An z ?_ ?_
       ·intro w12 hB10
        refine At<|⟨_,z,?_⟩
        exact Ah z z<|Aq (hC9.grow hB10) 1 z z BA z z<|Ab<|Aw (Al _ _) z z ⟨z,z⟩
       refine An z ?_ ?_
       ·intro w12 hB10
        refine At<|⟨_,z,?_⟩
        exact Ah z z<|Aq (hC9.grow hB10) 2 z z BA z z<|Ab<|Aw (Al _ _) z z ⟨z,z⟩
       refine An z ?_ ?_
       ·intro w12 hB10
        refine AD z z z ?_
        rintro _ _ ⟨rfl,rfl⟩ _
        refine At<|⟨_,z,?_⟩
        exact Ah z z<|AH Ai ty88 g3 hx3 z z z fun b6 o3 h8=>Ab<|Aw (Al _ _) z z ⟨z,_,_,z,h8⟩
       refine An z ?_ ?_
       ·intro w12 hB10
        refine AD z z z ?_
        rintro _ _ ⟨rfl,b6,o3,rfl,h8⟩ _
        refine At<|⟨_,z,?_⟩
        exact Ah z z<|AI ty88 h8 (hC9.keep.then hB10) z z fun v8 h11=>Ab<|Aw (Al _ _) z z ⟨z,h11⟩
       exact Bj
      intro w13 hB11
      refine Ar z z z ?_
      rintro _ _ ⟨rfl,rfl⟩
      refine Ar z z z ?_
      rintro _ _ ⟨rfl,rfl⟩
      refine Ar z z z ?_
      rintro _ _ ⟨rfl,b6,o3,rfl,h8⟩
      refine Ar z z z ?_
      rintro v8 _ ⟨rfl,h11⟩
      obtain ⟨v7,rfl,h10⟩:=BD h11
      refine Bt fun hn2 hb2=>have hC10:=hC9.grow hB11;be hr2 fun x7 hr4 hr2=>oe 18 z<|Ah z z<|cb CS z z (c_S_HasFact a3.2 u5 (g5.now hC10.keep) x6 v7 (h10.now hC10.keep) x7 hr4) fun w14 hB12=>have hC11:=hC10.grow hB12;Ab<|tg 19 z z z z (Cl z)<|Ah z z<|B3 z z<|Ab<|tp 20 z z z z<|tm 21 z z z<|BC (fun hc3=>?_) (fun hc3=>?_)
      ·replace hr2:=A7 hr2 hc3
       refine tg 22 z z z z (BB AB z z (fun w=>⟨_,Ay w⟩) z)<|Ah z z<|fd AB Ay z z z z<|Ab<|oe 23 z<|Ah z z<|Aq hC11 0 z z AR z z<|Ab<|tg 24 z z z z (CR z z)<|Ah z z<|BM z z z<|Ab<|tn 25 z z z z z<|BC (fun hc4=>?_) (fun hc4=>?_)
       ·replace hr2:=A7 hr2 hc4
        refine sk 26 z z z z z<|sk 27 z z z z z<|sk 28 z z z z z<|sk 29 z z z z z<|sk 30 z z z z z<|sk 31 z z z z z<|tg 32 z z z z (Cg z z)<|Ah z z<|AW z z z<|Ab<|tp 33 z z z z<|dn<|?_
        obtain rfl:=Aa hr2
        exact Am (l':=[(4,(ptr b1 0)),(5,(ptr b2 0)),(7,(ptr b4 0)),(8,(I x2)),(55,(.bool true))]) ⟨z,z,z,z,z,Aj⟩<|⟨true,z,z,(((((Ao hB6).then hB8).then hB9).then hB11).then hB12).below,hC11⟩
       replace hr2:=A8 hr2 hc4
       refine tg 26 z z z z (BB AK z z (fun w=>⟨_,Bp w⟩) z)<|Ah z z<|fd AK Bp z z z z<|Ab<|tg 29 z z z z (BB AB z z (fun w=>⟨_,Ay w⟩) z)<|Ah z z<|fd AB Ay z z z z<|Ab<|wAS (l':=[(4,(ptr b1 0)),(5,(ptr b2 0)),(7,(ptr b4 0)),(8,(I x2)),(15,(I x2)),(16,(ptr b1 2)),(17,u3),(18,(I (List.length a2.2:Int))),(19,(.bool (decide (x2 < (List.length a2.2:Int))))),(22,(.agg #[(I x1.1),v2,(I x1.2.2.1),(I x1.2.2.2.1),(I x1.2.2.2.2)])),(23,(ptr b2 0)),(24,(ptr b2 1)),(25,u4),(26,(ptr b1 2)),(27,u3),(28,(I x2)),(29,(ptr b5 o2)),(30,(.agg #[(I x4.1),v4])),(31,(.bool x5)),(32,(.bool true)),(33,(ptr b2 2)),(34,u5),(35,(ptr b1 2)),(36,u3),(37,(I x2)),(38,(ptr b6 o3)),(39,(.agg #[(I x6.1),v7])),(40,(.bool x7)),(41,(.bool (!x7))),(42,(.bool (!x7))),(43,(.bool true)),(44,(ptr b4 2)),(45,(I x1.2.2.1)),(46,(.bool (decide (x1.2.2.1=0)))),(47,(.bool false)),(48,(ptr b2 2)),(51,(ptr b4 2))]) ⟨z,z,z,z,z,z,z,z,z,z,z,z,z,z,z,z,z,z,z,z,z,z,z,z,z,z,z,z,z,z,z,z,z,z,z,z,z,Aj⟩<|Bq [⟨27,[],fun vs=>Ba u5,[]⟩,⟨28,[],fun vs=>Ba (I (List.length a3.2:Int)),[]⟩,⟨30,[],fun vs=>Ba (I x1.2.2.1),[]⟩] [[],[27],[]] 3 z (by kernel_rfl) (by kernel_rfl) z ?_ ?_
       ·refine An z ?_ ?_
        ·intro w15 hB13
         refine At<|⟨_,z,?_⟩
         exact Ah z z<|Aq (hC11.grow hB13) 1 z z BA z z<|Ab<|Aw (Al _ _) z z ⟨z,z⟩
        refine An z ?_ ?_
        ·intro w15 hB13
         refine AD z z z ?_
         rintro _ _ ⟨rfl,rfl⟩ _
         refine At<|⟨_,z,?_⟩
         exact Ah z z<|Bc Ai g5 z z<|Ab<|Aw (Al _ _) z z ⟨z,z⟩
        refine An z ?_ ?_
        ·intro w15 hB13
         refine At<|⟨_,z,?_⟩
         exact Ah z z<|Aq (hC11.grow hB13) 0 z z AR z z<|Ab<|Aw (Al _ _) z z ⟨z,z⟩
        exact Bj
       intro w16 hB14
       refine Ar z z z ?_
       rintro _ _ ⟨rfl,rfl⟩
       refine Ar z z z ?_
       rintro _ _ ⟨rfl,rfl⟩
       refine Ar z z z ?_
       rintro _ _ ⟨rfl,rfl⟩
       refine Bt fun hn3 hb3=>have hC12:=hC11.grow hB14;tg 31 z z z z (fl_lss z z)<|Ah z z<|Bv z z z<|Ab<|tg 32 z z z z (Ci z z)<|Ah z z<|AZ z z z<|Ab<|tp 33 z z z z<|dn<|?_
       obtain rfl:=Aa hr2
       exact Am (l':=[(4,(ptr b1 0)),(5,(ptr b2 0)),(7,(ptr b4 0)),(8,(I x2)),(55,(.bool (decide ((List.length a3.2:Int) < x1.2.2.1))))]) ⟨z,z,z,z,z,Aj⟩<|⟨(decide ((List.length a3.2:Int) < x1.2.2.1)),z,z,((((((Ao hB6).then hB8).then hB9).then hB11).then hB12).then hB14).below,hC12⟩
      replace hr2:=A8 hr2 hc3
      refine sk 22 z z z z z<|sk 23 z z z z z<|sk 24 z z z z z<|sk 25 z z z z z<|sk 26 z z z z z<|sk 27 z z z z z<|sk 28 z z z z z<|sk 29 z z z z z<|sk 30 z z z z z<|sk 31 z z z z z<|sk 32 z z z z z<|tq 33 z z z z<|dn<|?_
      obtain rfl:=Aa hr2
      exact Am (l':=[(4,(ptr b1 0)),(5,(ptr b2 0)),(7,(ptr b4 0)),(8,(I x2)),(55,(.bool false))]) ⟨z,z,z,z,z,Aj⟩<|⟨false,z,z,(((((Ao hB6).then hB8).then hB9).then hB11).then hB12).below,hC11⟩
     replace hr2:=A8 hr2 hc2
     refine sk 11 z z z z z<|sk 12 z z z z z<|sk 13 z z z z z<|sk 14 z z z z z<|sk 15 z z z z z<|sk 16 z z z z z<|sk 17 z z z z z<|sk 18 z z z z z<|sk 19 z z z z z<|tq 20 z z z z<|tm 21 z z z<|sk 22 z z z z z<|sk 23 z z z z z<|sk 24 z z z z z<|sk 25 z z z z z<|sk 26 z z z z z<|sk 27 z z z z z<|sk 28 z z z z z<|sk 29 z z z z z<|sk 30 z z z z z<|sk 31 z z z z z<|sk 32 z z z z z<|tq 33 z z z z<|dn<|?_
     obtain rfl:=Aa hr2
     exact Am (l':=[(4,(ptr b1 0)),(5,(ptr b2 0)),(7,(ptr b4 0)),(8,(I x2)),(55,(.bool false))]) ⟨z,z,z,z,z,Aj⟩<|⟨false,z,z,(((Ao hB6).then hB8).then hB9).below,hC9⟩
    rintro _ w6 ⟨x3,rfl,rfl,hB5,hC6⟩
    try dsimp only at hL1
    refine AE z (fun hc5=>?_) (fun hc5=>?_)
    ·replace hL1:=A7 hL1 hc5
     refine Ac<|Ad z z<|Ab<|AL<|Bd<|Av<|Av<|Bd<|Av<|Av<|?_
     obtain rfl:=Aa hL1
     dsimp only at hF
     obtain rfl:=Aa hF
     exact A2 z z<|⟨_,z,AN hC6 _⟩
    replace hL1:=A8 hL1 hc5
    exact AF<|AU<|Ap<|Bg<|Ae z z<|Bn z z z<|Ad z z<|Ab<|Am (l':=[(4,(ptr b1 0)),(5,(ptr b2 0)),(7,(ptr b4 0)),(8,(I (w64 (x2+1))))]) ⟨z,z,z,z,Aj⟩<|⟨k1,A3 _,w64 (x2+1),z,((Ao hB4).then hB5).below,hC6,hL1⟩
   replace hL1:=A8 hL1 hc1
   refine B1 (A9 (A9 (Bk ?_)))
   obtain rfl:=Aa hL1
   have hC13:=hC5.h0
   exact Am (l':=[]) Aj<|⟨z,z,(Ao hB4).below,hC13⟩
 rintro l3 _ w17 hs3 ⟨rfl,rfl,hB15,hC14⟩
 try dsimp only at hF
 refine AY hs3 ?_
 clear hs3
 refine Ac<|Ad z z<|Ab<|AL<|?_
 obtain rfl:=Aa hF
 exact A2 z z<|⟨_,z,AN hC14 _⟩
theorem c_S_Disagree {w0:World} (a1:(List Int)) (u1:Value) (g1:RO [] w0 u1 a1) (a2:(List (Int × (List Int) × Int × Int × Int))) (u2:Value) (g2:RO [] w0 u2 a2) (a3:((Int × (List Int)) × (List (Int × (List Int))))) (u3:Value) (g3:RO [] w0 u3 a3.1.2) (u4:Value) (g4:RO [] w0 u4 a3.2) (a4:((Int × (List Int)) × (List (Int × (List Int))))) (u5:Value) (g5:RO [] w0 u5 a4.1.2) (u6:Value) (g6:RO [] w0 u6 a4.2) (rr:Bool) (hF:S.Disagree a1 a2 a3 a4=some rr) :
 Calls Tryz.prog 28 [u1,u2,(.agg #[(I a3.1.1),u3,u4]),(.agg #[(I a4.1.1),u5,u6])].toArray w0 fun e w'=>∃v,e=.returned v∧Res w0 rr v w':=by
 refine Ax Tryz.func28 z z ?_
 have hC0:=A5 w0
 unfold S.Disagree at hF
 refine Ac<|Br (cs:=[(I a3.1.1),u3,u4]) hC0 z z z fun b1 w1 hC1 hB1 hN1=>Br (cs:=[(I a4.1.1),u5,u6]) hC1 z z z fun b2 w2 hC2 hB2 hN2=>Ad z z<|Ab<|be hF fun r1 hr1 hF=>BI (fun l w=>∃x1:Bool,x1=r1∧l=[(8,(.bool x1))]∧Below w2.heap.size w2 w∧Ctx [] w0 w []) ?_ ?_
 ·refine Bg<|Ae z z<|Ae z z<|Au [(I a3.1.1),u3,u4] hC2 1 z z z Bm AT z z<|be hr1 fun x2 hr2 hr1=>cb C8 z z (c_S_FitsSelf a1 u1 (g1.now hC2.keep) a2 u2 (g2.now hC2.keep) ((a3.1.1,a3.1.2),a3.2) u3 (g3.now hC2.keep) u4 (g4.now hC2.keep) x2 hr2) fun w4 hB4=>have hC4:=hC2.grow hB4;Ae z z<|Bz (fun hc1=>?_) (fun hc1=>?_)
  ·replace hr1:=A7 hr1 hc1
   refine Ah z z<|Ae z z<|Ah z z<|Ae z z<|Ah z z<|Au [(I a4.1.1),u5,u6] hC4 0 z z z Bm AT z z<|be hr1 fun x3 hr3 hr1=>Ah z z<|cb C8 z z (c_S_FitsSelf a1 u1 (g1.now hC4.keep) a2 u2 (g2.now hC4.keep) ((a4.1.1,a4.1.2),a4.2) u5 (g5.now hC4.keep) u6 (g6.now hC4.keep) x3 hr3) fun w5 hB5=>have hC5:=hC4.grow hB5;AW z z z<|Ae z z<|Bz (fun hc2=>?_) (fun hc2=>?_)
   ·replace hr1:=A7 hr1 hc2
    refine Ah z z<|Ae z z<|Ah z z<|Au [(I a3.1.1),u3,u4] hC5 1 z z z Bm AT z z<|Ah z z<|Au [(I a4.1.1),u5,u6] hC5 0 z z z Bm AT z z<|be hr1 fun x4 hr4 hr1=>Ah z z<|cb Tryz.call96 z z (c_S_l28Lacks a2 u2 (g2.now hC5.keep) ((a3.1.1,a3.1.2),a3.2) u3 (g3.now hC5.keep) u4 (g4.now hC5.keep) ((a4.1.1,a4.1.2),a4.2) u5 (g5.now hC5.keep) u6 (g6.now hC5.keep) x4 hr4) fun w6 hB6=>have hC6:=hC5.grow hB6;Ah z z<|Ae z z<|Bz (fun hc3=>?_) (fun hc3=>?_)
    ·replace hr1:=A7 hr1 hc3
     refine gs z z z z<|gs z z z z<|gs z z z z<|gs z z z z<|Ah z z<|AW z z z<|AW z z z<|Ad z z<|Ab<|?_
     obtain rfl:=Aa hr1
     have hC7:=hC6.h0
     exact Am (l':=[(8,(.bool true))]) ⟨z,Aj⟩<|⟨true,z,z,(((Ao hB4).then hB5).then hB6).below,hC7⟩
    replace hr1:=A8 hr1 hc3
    refine Ah z z<|Ae z z<|Ah z z<|Au [(I a4.1.1),u5,u6] hC6 0 z z z Bm AT z z<|Ah z z<|Au [(I a3.1.1),u3,u4] hC6 1 z z z Bm AT z z<|be hr1 fun x5 hr5 hr1=>Ah z z<|cb Tryz.call96 z z (c_S_l28Lacks a2 u2 (g2.now hC6.keep) ((a4.1.1,a4.1.2),a4.2) u5 (g5.now hC6.keep) u6 (g6.now hC6.keep) ((a3.1.1,a3.1.2),a3.2) u3 (g3.now hC6.keep) u4 (g4.now hC6.keep) x5 hr5) fun w7 hB7=>have hC8:=hC6.grow hB7;Ah z z<|AZ z z z<|AW z z z<|Ad z z<|Ab<|?_
    obtain rfl:=Aa hr1
    have hC9:=hC8.h0
    exact Am (l':=[(8,(.bool x5))]) ⟨z,Aj⟩<|⟨x5,z,z,((((Ao hB4).then hB5).then hB6).then hB7).below,hC9⟩
   replace hr1:=A8 hr1 hc2
   refine gs z z z z<|gs z z z z<|gs z z z z<|gs z z z z<|gs z z z z<|gs z z z z<|gs z z z z<|gs z z z z<|gs z z z z<|gs z z z z<|AZ z z z<|Ad z z<|Ab<|?_
   obtain rfl:=Aa hr1
   have hC10:=hC5.h0
   exact Am (l':=[(8,(.bool false))]) ⟨z,Aj⟩<|⟨false,z,z,((Ao hB4).then hB5).below,hC10⟩
  replace hr1:=A8 hr1 hc1
  refine gs z z z z<|gs z z z z<|gs z z z z<|gs z z z z<|AZ z z z<|Ae z z<|gs z z z z<|gs z z z z<|gs z z z z<|gs z z z z<|gs z z z z<|gs z z z z<|gs z z z z<|gs z z z z<|gs z z z z<|gs z z z z<|AZ z z z<|Ad z z<|Ab<|?_
  obtain rfl:=Aa hr1
  have hC11:=hC4.h0
  exact Am (l':=[(8,(.bool false))]) ⟨z,Aj⟩<|⟨false,z,z,(Ao hB4).below,hC11⟩
 rintro _ w3 ⟨x1,rfl,rfl,hB3,hC3⟩
 try dsimp only at hF
 refine AL ?_
 obtain rfl:=Aa hF
 exact A2 z z<|⟨_,z,AN hC3 _⟩
theorem c_S_FirstConflict {w0:World} (a1:(List Int)) (u1:Value) (g1:RO [] w0 u1 a1) (a2:(List (Int × (List Int) × Int × Int × Int))) (u2:Value) (g2:RO [] w0 u2 a2) (a3:(List ((Int × (List Int)) × (List (Int × (List Int)))))) (u3:Value) (g3:RO [] w0 u3 a3) (rr:(Int × Int × Bool)) (hF:S.FirstConflict a1 a2 a3=some rr) :
 Calls Tryz.prog 12 [u1,u2,u3].toArray w0 fun e w'=>∃v,e=.returned v∧Res3 w0 rr.1 rr.2.1 rr.2.2 v w':=by
 refine Ax Tryz.func12 z z ?_
 have hC0:=A5 w0
 unfold S.FirstConflict at hF
 refine Ac<|Ad z z<|Ad z z<|Ad z z<|Ab<|A6<|Ac<|Ad z z<|Ab<|be hF fun r1 hr1 hF=>Bi (fun l w=>.inl ()=r1∧l=[]∧Below w0.heap.size w0 w∧Ctx [] w0 w []) ?_ ?_
 ·refine AJ<|wS (l':=[(0,u1),(1,u2),(2,u3),(9,(I 0))]) ⟨z,z,z,z,Aj⟩<|B2 (fun k l w=>∃x1:Int,l=[(0,u1),(1,u2),(2,u3),(9,(I x1))]∧Below w0.heap.size w0 w∧Ctx [] w0 w []∧S.FirstConflict_l1 a3 a1 a2 k x1=some r1) FUEL ⟨0,z,(Al _ _),hC0,hr1⟩<|?_
  clear hr1
  rintro k1 _ w1 ⟨x1,rfl,hB1,hC1,hL1⟩
  cases k1 with
  | zero=>rw [S.FirstConflict_l1] at hL1; cases hL1
  | succ k1 =>
   rw [S.FirstConflict_l1] at hL1
   refine A6<|Ac<|Ae z z<|Ae z z<|Bc A0 g3 z z<|Bv z z z<|Ab<|AE z (fun hc1=>?_) (fun hc1=>?_)
   ·replace hL1:=A7 hL1 hc1
    refine AF<|Ap<|A6<|AJ<|A6<|Ac<|Ae z z<|Ae z z<|Ae z z<|Ae z z<|be hL1 fun x2 hx1 hL1=>AH A0 ty46 g3 hx1 z z z fun b1 o1 h1=>AI ty46 h1 hC1.keep z z fun v1 h2=>?_
    obtain ⟨v2,v3,rfl,h3,h4⟩:=Cr h2
    refine be hL1 fun x3 hr2 hL1=>cb C8 z z (c_S_FitsSelf a1 u1 (g1.now hC1.keep) a2 u2 (g2.now hC1.keep) x2 v2 (h3.now hC1.keep) v3 (h4.now hC1.keep) x3 hr2) fun w2 hB2=>have hC2:=hC1.grow hB2;B3 z z<|Ab<|AE z (fun hc2=>?_) (fun hc2=>?_)
    ·replace hL1:=A7 hL1 hc2
     refine Ac<|Ae z z<|Ae z z<|Ad z z<|Ad z z<|Ad z z<|Ab<|AL<|Av<|Bd<|Av<|Av<|Bd<|Av<|Av<|?_
     obtain rfl:=Aa hL1
     dsimp only at hF
     obtain rfl:=Aa hF
     refine CG z z z z ?_
     have hC3:=hC2.triv (C2 (true))
     have hC4:=hC3.triv (Bx (x1))
     have hC5:=hC4.triv (Bx (x1))
     exact ⟨_,z,res3_of hC5⟩
    replace hL1:=A8 hL1 hc2
    refine AF<|Ap<|Ac<|Ad z z<|Ab<|be hL1 fun r2 hr3 hL1=>Bi (fun l w=>.inl ()=r2∧l=[(0,u1),(1,u2),(2,u3),(9,(I x1))]∧Below w2.heap.size w2 w∧Ctx [] w0 w []) ?_ ?_
    ·refine AJ<|wS (l':=[(0,u1),(1,u2),(2,u3),(9,(I x1)),(10,(I 0))]) ⟨z,z,z,z,z,Aj⟩<|B2 (fun k l w=>∃x4:Int,l=[(0,u1),(1,u2),(2,u3),(9,(I x1)),(10,(I x4))]∧Below w2.heap.size w2 w∧Ctx [] w0 w []∧S.FirstConflict_l2 x1 a3 a1 a2 k x4=some r2) FUEL ⟨0,z,(Al _ _),hC2,hr3⟩<|?_
     clear hr3
     rintro k2 _ w3 ⟨x4,rfl,hB3,hC6,hL2⟩
     cases k2 with
     | zero=>rw [S.FirstConflict_l2] at hL2; cases hL2
     | succ k2 =>
      rw [S.FirstConflict_l2] at hL2
      refine A6<|Ac<|Ae z z<|Ae z z<|Bv z z z<|Ab<|AE z (fun hc3=>?_) (fun hc3=>?_)
      ·replace hL2:=A7 hL2 hc3
       refine AF<|Ap<|A6<|AJ<|A6<|W_drawn 11 z hmix fun w4 hB4=>have hC7:=hC6.grow hB4;tm 0 z z z<|tm 1 z z z<|tm 2 z z z<|tm 3 z z z<|be hL2 fun x5 hx2 hL2=>tk 4 z z (BG A0 ty46 g3 hx2 z z)<|AH A0 ty46 g3 hx2 z z z fun b2 o2 h5=>Ab<|tm 6 z z z<|tm 7 z z z<|be hL2 fun x6 hx3 hL2=>tk 8 z z (BG A0 ty46 g3 hx3 z z)<|AH A0 ty46 g3 hx3 z z z fun b3 o3 h6=>Ab<|wAS (l':=[(0,u1),(1,u2),(2,u3),(9,(I x1)),(10,(I x4)),(27,(I x4)),(28,(I x1)),(29,(.bool (decide (x4 < x1)))),(32,u1),(33,u2),(34,u3),(35,(I x4)),(36,(ptr b2 o2)),(38,u3),(39,(I x1)),(40,(ptr b3 o3))]) ⟨z,z,z,z,z,z,z,z,z,z,z,z,z,z,z,z,Aj⟩<|Bq [⟨5,[],fun vs=>Ce [] w0 x5,[]⟩,⟨9,[],fun vs=>Ce [] w0 x6,[]⟩] [[],[]] 1 z (by kernel_rfl) (by kernel_rfl) z ?_ ?_
       ·refine An z ?_ ?_
        ·intro w5 hB5
         refine At<|⟨_,z,?_⟩
         exact AI ty46 h5 (hC7.keep.then hB5) z z fun v7 h10=>Ab<|Aw (Al _ _) z z ⟨z,h10⟩
        refine An z ?_ ?_
        ·intro w5 hB5
         refine At<|⟨_,z,?_⟩
         exact AI ty46 h6 (hC7.keep.then hB5) z z fun v11 h14=>Ab<|Aw (Al _ _) z z ⟨z,h14⟩
        exact Bj
       intro w6 hB6
       refine Ar z z z ?_
       rintro v7 _ ⟨rfl,h10⟩
       obtain ⟨v5,v6,rfl,h8,h9⟩:=Cr h10
       refine Ar z z z ?_
       rintro v11 _ ⟨rfl,h14⟩
       obtain ⟨v9,v10,rfl,h12,h13⟩:=Cr h14
       refine Bt fun hn1 hb1=>have hC8:=hC7.grow hB6;be hL2 fun x7 hr4 hL2=>oe 10 z<|cb Tryz.call28 z z (c_S_Disagree a1 u1 (g1.now hC8.keep) a2 u2 (g2.now hC8.keep) x5 v5 (h8.now hC8.keep) v6 (h9.now hC8.keep) x6 v9 (h12.now hC8.keep) v10 (h13.now hC8.keep) x7 hr4) fun w7 hB7=>have hC9:=hC8.grow hB7;Ab<|dn<|Ap<|AE z (fun hc4=>?_) (fun hc4=>?_)
       ·replace hL2:=A7 hL2 hc4
        refine Ac<|Ae z z<|Ae z z<|Ad z z<|Ad z z<|Ad z z<|Ab<|AL<|Bd<|Av<|Av<|Bd<|Av<|Bd<|Av<|Av<|Bd<|Av<|Av<|?_
        obtain rfl:=Aa hL2
        dsimp only at hL1
        obtain rfl:=Aa hL1
        dsimp only at hF
        obtain rfl:=Aa hF
        refine CG z z z z ?_
        have hC10:=hC9.triv (C2 (true))
        have hC11:=hC10.triv (Bx (x1))
        have hC12:=hC11.triv (Bx (x4))
        exact ⟨_,z,res3_of hC12⟩
       replace hL2:=A8 hL2 hc4
       exact AF<|AU<|Ap<|Bg<|Ae z z<|Bn z z z<|Ad z z<|Ab<|Am (l':=[(0,u1),(1,u2),(2,u3),(9,(I x1)),(10,(I (w64 (x4+1))))]) ⟨z,z,z,z,z,Aj⟩<|⟨k2,A3 _,w64 (x4+1),z,((((Ao hB3).then hB4).then hB6).then hB7).below,hC9,hL2⟩
      replace hL2:=A8 hL2 hc3
      refine B1 (A9 (A9 (Bk ?_)))
      obtain rfl:=Aa hL2
      exact Am (l':=[(0,u1),(1,u2),(2,u3),(9,(I x1))]) ⟨z,z,z,z,Aj⟩<|⟨z,z,(Ao hB3).below,hC6⟩
    rintro l3 _ w9 hs3 ⟨rfl,rfl,hB8,hC13⟩
    try dsimp only at hL1
    refine AU<|AY hs3<|?_
    clear hs3
    exact Bg<|Ae z z<|Bn z z z<|Ad z z<|Ab<|Am (l':=[(0,u1),(1,u2),(2,u3),(9,(I (w64 (x1+1))))]) ⟨z,z,z,z,Aj⟩<|⟨k1,A3 _,w64 (x1+1),z,(((Ao hB1).then hB2).then hB8).below,hC13,hL1⟩
   replace hL1:=A8 hL1 hc1
   refine B1 (A9 (A9 (Bk ?_)))
   obtain rfl:=Aa hL1
   exact Am (l':=[]) Aj<|⟨z,z,(Ao hB1).below,hC1⟩
 rintro l4 _ w10 hs4 ⟨rfl,rfl,hB9,hC14⟩
 try dsimp only at hF
 refine AY hs4 ?_
 clear hs4
 refine Ac<|Ad z z<|Ad z z<|Ad z z<|Ab<|AL<|?_
 obtain rfl:=Aa hF
 refine CG z z z z ?_
 have hC15:=hC14.triv (C2 (false))
 have hC16:=hC15.triv (Bx ((-1)))
 have hC17:=hC16.triv (Bx ((-1)))
 exact ⟨_,z,res3_of hC17⟩
theorem c_M_added_c1 {w0:World} (a1:(Int × (List Int))) (u1:Value) (g1:RO [] w0 u1 a1.2) (pb1:Nat) (ax1:(Int × (List Int))) (g2:ROAt [] w0 pb1 0 ax1) (rr:Bool) (hF:M.added_c1 a1 ax1=some rr) :
 Calls Tryz.prog 127 [(.agg #[(I a1.1),u1]),(ptr pb1 0)].toArray w0 fun e w'=>∃v,e=.returned v∧Res w0 rr v w':=by
 refine Ax Tryz.func127 z z ?_
 have hC0:=A5 w0
 unfold M.added_c1 at hF
 refine Ac<|Br (cs:=[(I a1.1),u1]) hC0 z z z fun b1 w1 hC1 hB1 hN1=>Ad z z<|Ab<|Ac<|Au [(I a1.1),u1] hC1 0 z z z Bl AP z z<|AI ty88 g2 hC1.keep z z fun v1 h1=>?_
 obtain ⟨v2,rfl,h2⟩:=BD h1
 refine be hF fun x1 hr1 hF=>ci CN z z (c_M_CompareFacts (a1.1,a1.2) u1 (g1.now hC1.keep) ax1 v2 (h2.now hC1.keep) x1 hr1) fun w2 hB2=>have hC2:=hC1.grow hB2;Ca z z z<|Ad z z<|Ab<|AL<|?_
 obtain rfl:=Aa hF
 exact A2 z z<|⟨_,z,AN hC2 _⟩
theorem c_Slices_Insert_Limpl_Fact_impl_Fact {Fs:List (List Nat)} {w0:World} (a1:(List (Int × (List Int)))) (u1:Value) (a2:Int) (a3:(List (Int × (List Int)))) (u2:Value) (hH:Hold [Af u1 (a1:(List (Int × (List Int)))),Af u2 (a3:(List (Int × (List Int))))] w0 Fs) (hn:Fs.flatten.Nodup) (rr:(List (Int × (List Int)))) (hF:Slices.Insert_Limpl_Fact_impl_Fact a1 a2 a3=some rr) :
 Calls Tryz.prog 129 [u1,(I a2),u2].toArray w0 fun e w'=>∃v,e=.returned v∧∃q0:Value,v=q0∧Ctx Fs.flatten w0 w' [Af q0 (rr:(List (Int × (List Int))))]:=by
 refine Ax Tryz.func129 z z ?_
 have hC0:=BE hH hn
 unfold Slices.Insert_Limpl_Fact_impl_Fact at hF
 obtain ⟨m,rfl,hm,hb1,hlim,rfl⟩:=ins_some hF
 have hsub:sub a1 (m:Int) (a1.length:Int)=some (a1.drop m):=by unfold sub; rw [if_pos (by omega)]; simp
 have hb1':(a3.length:Int)=1:=by omega
 have hlim':a1.length+1 ≤ 4294967296:=by rw [LIM_eq] at hlim; exact hlim
 have hw1:w64 ((a1.length:Int)+1)=((a1.length+1:Nat):Int):=by rw [w64_id (by omega) (by omega)]; omega
 have hw2:w64 (((a1.length+1:Nat):Int) - (m:Int))=((a1.length+1 - m:Nat):Int):=by rw [w64_id (by omega) (by omega)]; omega
 have hw3:w64 ((m:Int)+1)=((m+1:Nat):Int):=by rw [w64_id (by omega) (by omega)]; omega
 refine Ac<|Ad z z<|Ab<|Ac<|Ae z z<|Ae z z<|WL_slice_l Ai ty88 (hC0.ro 0 z) hsub z z z fun v1 h1=>Ab<|Ac<|Ae z z<|Bc Ai (hC0.ro 1 z) z z<|?_
 rw [hb1']
 refine Ad z z<|Ab<|A6<|Ac<|Ae z z<|BM z z z<|Ab<|C1 z<|AF<|Ap<|Ac<|Ae z z<|Bc Ai (hC0.ro 0 z) z z<|Ad z z<|Ab<|A6<|Ac<|Ae z z<|Ae z z<|BM z z z<|?_
 by_cases hi:m=a1.length
 ·have e1:a1.take m ++ a3 ++ a1.drop m=a1 ++ a3:=by rw [List.take_of_length_le (by omega),List.drop_of_length_le (by omega),List.append_nil]
  rw [e1,decide_eq_true (show (m:Int)=(a1.length:Int) by omega)]
  refine Ab<|C0 z<|Ac<|Ae z z<|Ae z z<|?_
  have happ:app a1 a3=some (a1 ++ a3):=by unfold app; rw [if_pos (by omega)]
  exact By hC0.swap 0 z Ai ty88 z happ z z z fun v2 w2 hC2=>Ad z z<|Ab<|AL<|Av<|A2 z z<|⟨_,z,_,z,hC2⟩
 rw [decide_eq_false (show ¬ (m:Int)=(a1.length:Int) by omega)]
 refine Ab<|C1 z<|AF<|Ap<|?_
 have hml:m < a1.length:=by omega
 obtain ⟨b,c,row,T,cells,Fe,vb,vc,vrow,vT,vcells,Ge,rfl,rfl,h4,g4,h5,g5,h6,g6,h8,g8,h10,h11,h12,h13,h14,h15,hK⟩:=hC0.ins_raw (by intro e; rw [e] at hml; simp at hml) (by intro e; rw [e] at hb1; simp at hb1)
 have hcl:=elems_len h5
 have hvl:=elems_len g5
 rw [hb1] at hvl
 have hyl:(cells.drop (m * Rep.sz (Int × (List Int)))).length=(a1.length - m) * Rep.sz (Int × (List Int)):=by rw [List.length_drop,hcl,Nat.sub_mul]
 have hvr:(vrow.toList.drop 0).take (1 * Rep.sz (Int × (List Int)))=vcells:=by rw [List.drop_zero,← g6,hb1]
 have hv1:=elems_one g5
 have hy1:∀ u ∈ cells.drop (m * Rep.sz (Int × (List Int))),u.oneCell'=true:=fun u hu=>elems_one h5 u (List.mem_of_mem_drop hu)
 refine A6<|Ac<|Ae z z<|Ae z z<|Bn z z z<|?_
 rw [hw1]
 refine Ae z z<|WL_cap Ai z z<|Ca z z z<|?_
 by_cases hr:c < a1.length+1
 ·rw [decide_eq_true (show (c:Int) < ((a1.length+1:Nat):Int) by omega)]
  refine Ab<|C0 z<|Ac<|Ae z z<|Ae z z<|WL_sl_h Ai ty88 (show m ≤ c by omega) (by omega) z z z<|Ae z z<|Ae z z<|Bn z z z<|?_
  rw [hw1]
  refine Ae z z<|BR z z z<|?_
  rw [hw2]
  refine WL_zeros Ai ty88 z Cu h4 (take_cells h6 hm) (by rw [List.length_take,hcl,Nat.min_eq_left (Nat.mul_le_mul_right _ hm)]) (show 0 < a1.length+1 - m by omega) (by omega) (by rw [LIM_eq]; omega) z z z (fun c' row' k1 k2 k3 k4=>?_)
  rw [show m+(a1.length+1 - m)=a1.length+1 by omega] at k3 ⊢
  obtain ⟨q1,q2,q3⟩:=row_grow (row':=row') hm hcl hvl k1 k2 k3
  obtain ⟨w1,hw1e⟩:∃w1,w1=w0.drew.alloc (.cells row' 88):=⟨_,z⟩
  have hA1:w1.heap[w0.heap.size]?=some (.cells row' 88 (0,0)):=by rw [hw1e]; exact heap_alloc_new w0.drew _
  have hB1:Below w0.heap.size w0 w1:=by rw [hw1e]; exact below_new w0 _
  rw [← hw1e]
  refine Ad z z<|Ab<|Ac<|Ae z z<|Ae z z<|C6 Ai ty88 (show m < c' by omega) (show m ≤ a1.length+1 by omega) k3 z z z<|Ae z z<|WL_copy (m:=1) Ai ty88 hA1 ((hB1.block vb (heap_lt g4)).trans g4) (by show Nat.min a3.length (a1.length+1 - m)=1; rw [hb1]; exact Nat.min_eq_left (by omega)) hvr hvl hv1 (by rw [hvl,k2,Nat.zero_add,← Nat.add_mul]; exact Nat.mul_le_mul_right _ (by omega)) z z z<|?_
  generalize hr1:(row'.toList.take (0+m * Rep.sz (Int × (List Int))) ++ vcells ++ row'.toList.drop (0+m * Rep.sz (Int × (List Int))+vcells.length)).toArray=r1 at q1 q2 q3 ⊢
  have hA2:(w1.setRow w0.heap.size r1).heap[w0.heap.size]?=some (.cells r1 88 (0,0)):=setRow_heap _ _ _ _ _ _ hA1
  have hB2:Below w0.heap.size w0 (w1.setRow w0.heap.size r1):=below_row hB1 (Nat.le_refl _)
  refine Ab<|A6<|W_drawn 9 z hmix fun w3 hB3=>tk 0 z z (Cz z)<|Ae z z<|Ab<|tk 1 z z (Cz z)<|Ae z z<|Ab<|tk 2 z z (Cz z)<|Ae z z<|Ab<|tk 3 z z (fl_add z z)<|Bn z z z<|?_
  rw [hw3]
  refine Ab<|tk 4 z z (fl_sl_l Ai ty88 (show m+1 < c' by omega) (show m+1 ≤ a1.length+1 by omega) k3 z z)<|C6 Ai ty88 (show m+1 < c' by omega) (show m+1 ≤ a1.length+1 by omega) k3 z z z<|Ab<|tk 5 z z (Cz z)<|Ae z z<|Ab<|tk 6 z z (Cz z)<|Ae z z<|Ab<|tk 7 z z (fl_sl_l Ai ty88 (show m < c by omega) hm h10 z z)<|C6 Ai ty88 (show m < c by omega) hm h10 z z z<|Ab<|?_
  have hA3:w3.heap[w0.heap.size]?=some (.cells r1 88 (0,0)):=(hB3.block _ (heap_lt hA2)).trans hA2
  have hB30:Below w0.heap.size w0 w3:=hB2.trans ⟨hB3.os,hB3.tape,hB3.output,hB3.size,fun k hk=>hB3.block k (Nat.lt_of_lt_of_le hk hB2.size)⟩
  refine oe 8 z<|WL_copy (m:=a1.length - m) Ai ty88 hA3 ((hB30.block b (heap_lt h4)).trans h4) (by show Nat.min (a1.length - m) (a1.length+1 - (m+1))=a1.length - m; rw [show a1.length+1 - (m+1)=a1.length - m by omega]; exact Nat.min_self _) (drop_cells h6) hyl hy1 (by rw [hyl,q3,Nat.zero_add,← Nat.add_mul]; exact Nat.mul_le_mul_right _ (by omega)) z z z<|?_
  generalize hr2:(r1.toList.take (0+(m+1) * Rep.sz (Int × (List Int))) ++ cells.drop (m * Rep.sz (Int × (List Int))) ++ r1.toList.drop (0+(m+1) * Rep.sz (Int × (List Int))+(cells.drop (m * Rep.sz (Int × (List Int)))).length)).toArray=r2 at q1 q2 ⊢
  refine Ab<|dn<|Ap<|Ac<|Ae z z<|Ad z z<|Ab<|AL<|Av<|A2 z z<|?_
  have hB4:Below w0.heap.size w0 (w3.setRow w0.heap.size r2):=below_row hB30 (Nat.le_refl _)
  have hin:∀ k ∈ Fe ++ Ge,k < w0.heap.size:=fun k hk=>(List.mem_append.1 hk).elim (elems_inh h5 k) (elems_inh g5 k)
  obtain ⟨F',e1,e2,e3⟩:=ins_val (w':=w3.setRow w0.heap.size r2) h5 g5 h14 hm hb1 (g:=w0.heap.size) (fun h=>absurd (hin _ h) (Nat.lt_irrefl _)) (setRow_heap _ _ _ _ _ _ hA3) (fun k hk=>hB4.block k (hin k hk)) q1 q2 k3 k4
  exact ⟨_,z,_,z,hK _ _ _ F' ⟨hB4.os,hB4.tape,hB4.output,hB4.size,fun k hk _=>hB4.block k hk⟩ e1 e2 (fun k hk=>(e3 k hk).elim (fun h=>.inr (.inr (Nat.le_of_eq h.symm))) (fun h=>.inr (.inl h)))⟩
 rw [decide_eq_false (show ¬ (c:Int) < ((a1.length+1:Nat):Int) by omega)]
 refine Ab<|C1 z<|AF<|Ap<|?_
 have k3:a1.length+1 ≤ c:=by omega
 obtain ⟨q1,q2,q3⟩:=row_shift hm hcl hvl h6 h8 k3
 refine Ac<|Ae z z<|Ae z z<|Ae z z<|Bn z z z<|?_
 rw [hw1]
 refine WL_sl_h Ai ty88 k3 (by omega) z z z<|Ad z z<|Ab<|A6<|Ac<|Ae z z<|Ae z z<|Ae z z<|Ae z z<|Bn z z z<|?_
 rw [hw3]
 refine C6 Ai ty88 (show m+1 < c by omega) (show m+1 ≤ a1.length+1 by omega) k3 z z z<|WL_apart (R:=4) (run_callFunc_extern Tryz.func179 (by kernel_rfl) (by kernel_rfl) (by kernel_rfl) (by kernel_rfl)) Ai ty88 h13 h4 g4 (by rw [h8]; exact Nat.ne_of_gt (Nat.mul_pos (by omega) (by decide))) z z z<|B3 z z<|Ab<|C0 z<|A6<|W_drawn 9 z hmix fun w3 hB3=>tk 0 z z (Cz z)<|Ae z z<|Ab<|tk 1 z z (Cz z)<|Ae z z<|Ab<|tk 2 z z (Cz z)<|Ae z z<|Ab<|tk 3 z z (fl_add z z)<|Bn z z z<|?_
 rw [hw3]
 refine Ab<|tk 4 z z (fl_sl_l Ai ty88 (show m+1 < c by omega) (show m+1 ≤ a1.length+1 by omega) k3 z z)<|C6 Ai ty88 (show m+1 < c by omega) (show m+1 ≤ a1.length+1 by omega) k3 z z z<|Ab<|tk 5 z z (Cz z)<|Ae z z<|Ab<|tk 6 z z (Cz z)<|Ae z z<|Ab<|tk 7 z z (fl_sl_l Ai ty88 (show m < c by omega) (show m ≤ a1.length+1 by omega) k3 z z)<|C6 Ai ty88 (show m < c by omega) (show m ≤ a1.length+1 by omega) k3 z z z<|Ab<|?_
 have hA3:w3.heap[b]?=some (.cells row T (0,0)):=(hB3.block _ (heap_lt h4)).trans h4
 refine oe 8 z<|WL_copy (m:=a1.length - m) Ai ty88 hA3 hA3 (by show Nat.min (a1.length+1 - m) (a1.length+1 - (m+1))=a1.length - m; rw [show a1.length+1 - (m+1)=a1.length - m by omega]; exact Nat.min_eq_right (by omega)) (drop_cells h6) hyl hy1 (by rw [hyl,h8,Nat.zero_add,← Nat.add_mul]; exact Nat.mul_le_mul_right _ (by omega)) z z z<|?_
 generalize hr1:(row.toList.take (0+(m+1) * Rep.sz (Int × (List Int))) ++ cells.drop (m * Rep.sz (Int × (List Int))) ++ row.toList.drop (0+(m+1) * Rep.sz (Int × (List Int))+(cells.drop (m * Rep.sz (Int × (List Int)))).length)).toArray=r1 at q1 q2 q3 ⊢
 have hA4:(w3.setRow b r1).heap[b]?=some (.cells r1 T (0,0)):=setRow_heap _ _ _ _ _ _ hA3
 have g43:(w3.setRow b r1).heap[vb]?=some (.cells vrow vT (0,0)):=(setRow_other _ _ _ _ h13).trans ((hB3.block _ (heap_lt g4)).trans g4)
 refine Ab<|dn<|Ap<|Ac<|Ae z z<|Ae z z<|C6 Ai ty88 (show m < c by omega) (show m ≤ a1.length+1 by omega) k3 z z z<|Ae z z<|WL_copy (m:=1) Ai ty88 hA4 g43 (by show Nat.min a3.length (a1.length+1 - m)=1; rw [hb1]; exact Nat.min_eq_left (by omega)) hvr hvl hv1 (by rw [hvl,q3,Nat.zero_add,← Nat.add_mul]; exact Nat.mul_le_mul_right _ (by omega)) z z z<|?_
 generalize hr2:(r1.toList.take (0+m * Rep.sz (Int × (List Int))) ++ vcells ++ r1.toList.drop (0+m * Rep.sz (Int × (List Int))+vcells.length)).toArray=r2 at q1 q2 ⊢
 refine Ab<|Ac<|Ae z z<|Ad z z<|Ab<|AL<|Av<|A2 z z<|?_
 have hK4:Keep [b] w0 ((w3.setRow b r1).setRow b r2):=Keep.row (Keep.row ⟨hB3.os,hB3.tape,hB3.output,hB3.size,fun k hk _=>hB3.block k hk⟩)
 have hin:∀ k ∈ Fe ++ Ge,k < w0.heap.size:=fun k hk=>(List.mem_append.1 hk).elim (elems_inh h5 k) (elems_inh g5 k)
 obtain ⟨F',e1,e2,e3⟩:=ins_val (w':=(w3.setRow b r1).setRow b r2) h5 g5 h14 hm hb1 (g:=b) h15 (setRow_heap _ _ _ _ _ _ hA4) (fun k hk=>hK4.block k (hin k hk) (by simp only [List.mem_singleton]; intro e; exact h15 (e ▸ hk))) q1 q2 k3 h11
 exact ⟨_,z,_,z,hK _ _ _ F' hK4 e1 e2 (fun k hk=>(e3 k hk).elim .inl (fun h=>.inr (.inl h)))⟩
theorem c_Slices_IndexFunc_Limpl_Fact_impl_Fact_M_added_c1 {w0:World} (a1:(List (Int × (List Int)))) (u1:Value) (g1:RO [] w0 u1 a1) (pb1:Nat) (ax1:(Int × (List Int))) (g2:ROAt [] w0 pb1 0 ax1) (rr:Int) (hF:Slices.IndexFunc_Limpl_Fact_impl_Fact_M_added_c1 a1 ax1=some rr) :
 Calls Tryz.prog 126 [u1,(.func (.func 127) #[] #[(ptr pb1 0)])].toArray w0 fun e w'=>∃v,e=.returned v∧Res w0 rr v w':=by
 refine Ax Cj z z ?_
 have hC0:=A5 w0
 unfold Slices.IndexFunc_Limpl_Fact_impl_Fact_M_added_c1 at hF
 refine Ac<|Ad z z<|Ab<|A6<|Ac<|Ae z z<|Bc Ai g1 z z<|Ae z z<|Ab<|be hF fun r1 hr1 hF=>Bi (fun l w=>.inl ()=r1∧l=[]∧Below w0.heap.size w0 w∧Ctx [] w0 w []) ?_ ?_
 ·refine AJ<|wS (l':=[(0,u1),(1,(.func (.func 127) #[] #[(ptr pb1 0)])),(7,(I (List.length a1:Int))),(8,(I 0))]) ⟨z,z,z,z,Aj⟩<|B2 (fun k l w=>∃x1:Int,l=[(0,u1),(1,(.func (.func 127) #[] #[(ptr pb1 0)])),(7,(I (List.length a1:Int))),(8,(I x1))]∧Below w0.heap.size w0 w∧Ctx [] w0 w []∧Slices.IndexFunc_Limpl_Fact_impl_Fact_M_added_c1_l1 a1 ax1 k x1=some r1) FUEL ⟨0,z,(Al _ _),hC0,hr1⟩<|?_
  clear hr1
  rintro k1 _ w1 ⟨x1,rfl,hB1,hC1,hL1⟩
  cases k1 with
  | zero=>rw [Slices.IndexFunc_Limpl_Fact_impl_Fact_M_added_c1_l1] at hL1; cases hL1
  | succ k1 =>
   rw [Slices.IndexFunc_Limpl_Fact_impl_Fact_M_added_c1_l1] at hL1
   refine Ac<|Bv z z z<|Ab<|A6<|AE z (fun hc1=>?_) (fun hc1=>?_)
   ·replace hL1:=A7 hL1 hc1
    refine AF<|Ap<|A6<|AJ<|Ac<|Ae z z<|Ad z z<|Ab<|Ac<|Ae z z<|Ae z z<|Ae z z<|be hL1 fun x2 hx1 hL1=>AH Ai ty88 g1 hx1 z z z fun b1 o1 h1=>AI ty88 h1 hC1.keep z z fun v1 h2=>?_
    obtain ⟨v2,rfl,h3⟩:=BD h2
    refine be hL1 fun x3 hr2 hL1=>BT (cap:=[(ptr pb1 0)]) Tryz.call127 z z z (c_M_added_c1 x2 v2 (h3.now hC1.keep) pb1 ax1 (g2.now hC1.keep) x3 hr2) fun _ w2 hv1=>?_
    obtain ⟨rfl,hB2⟩:=BU hv1
    have hC2:=hC1.grow hB2
    refine Ab<|AE z (fun hc2=>?_) (fun hc2=>?_)
    ·replace hL1:=A7 hL1 hc2
     refine Ac<|Ae z z<|Ad z z<|Ab<|AL<|Bd<|Av<|Av<|Bd<|Av<|Av<|?_
     obtain rfl:=Aa hL1
     dsimp only at hF
     obtain rfl:=Aa hF
     exact A2 z z<|⟨_,z,B4 hC2 _⟩
    replace hL1:=A8 hL1 hc2
    exact AF<|AU<|Ap<|Bg<|Bn z z z<|Ae z z<|Ab<|Am (l':=[(0,u1),(1,(.func (.func 127) #[] #[(ptr pb1 0)])),(7,(I (List.length a1:Int))),(8,(I (w64 (x1+1))))]) ⟨z,z,z,z,Aj⟩<|⟨k1,A3 _,w64 (x1+1),z,((Ao hB1).then hB2).below,hC2,hL1⟩
   replace hL1:=A8 hL1 hc1
   refine B1 (A9 (A9 (Bk ?_)))
   obtain rfl:=Aa hL1
   exact Am (l':=[]) Aj<|⟨z,z,(Ao hB1).below,hC1⟩
 rintro l2 _ w3 hs2 ⟨rfl,rfl,hB3,hC3⟩
 try dsimp only at hF
 refine AY hs2 ?_
 clear hs2
 refine Ac<|Ad z z<|Ab<|AL<|?_
 obtain rfl:=Aa hF
 exact A2 z z<|⟨_,z,B4 hC3 _⟩
theorem c_M_added {w0:World} {Fs:List (List Nat)} (a1:(List (Int × (List Int)))) (u1:Value) (a2:(Int × (List Int))) (u2:Value) (g2:RO Fs.flatten w0 u2 a2.2) (hH:Hold [Af u1 (a1:(List (Int × (List Int))))] w0 Fs) (hn:Fs.flatten.Nodup) (rr:(List (Int × (List Int)))) (hF:M.added a1 a2=some rr) :
 Calls Tryz.prog 68 [u1,(.agg #[(I a2.1),u2])].toArray w0 fun e w'=>∃v,e=.returned v∧∃q0:Value,v=q0∧Ctx Fs.flatten w0 w' [Af q0 (rr:(List (Int × (List Int))))]:=by
 refine Ax Tryz.func68 z z ?_
 have hC0:=BE hH hn
 unfold M.added at hF
 refine Ac<|Br (cs:=[(I a2.1),u2]) hC0 z z z fun b1 w1 hC1 hB1 hN1=>Ad z z<|Ab<|A6<|Ac<|Ae z z<|Au [(I a2.1),u2] hC1 0 z z z Bl AP z z<|be hF fun x1 hr1 hF=>cb CP z z (c_M_HasFact a1 u1 ((hC1.ro 1 z).now (A1 _ _)) (a2.1,a2.2) u2 (g2.now hC1.keep) x1 hr1) fun w2 hB2=>have hC2:=hC1.grow hB2;Ab<|AE z (fun hc1=>?_) (fun hc1=>?_)
 ·replace hF:=A7 hF hc1
  refine Ac<|Ae z z<|Ad z z<|Ab<|AL<|Av<|?_
  obtain rfl:=Aa hF
  exact A2 z z<|have hC3:=hC2.f1;have hC4:=hC3.h1;⟨_,z,_,z,hC4⟩
 replace hF:=A8 hF hc1
 refine AF<|Ap<|Ac<|Ae z z<|BP z z<|be hF fun x2 hr2 hF=>ci Ck z z (c_Slices_IndexFunc_Limpl_Fact_impl_Fact_M_added_c1 a1 u1 ((hC2.ro 1 z).now (A1 _ _)) b1 (a2.1,a2.2) (hC2.boxAt 0 z (repw_pair repw_int (repw_slice (g2.now hC2.keep)))) x2 hr2) fun w3 hB3=>have hC5:=hC2.grow hB3;Ad z z<|Ab<|A6<|Ac<|Ae z z<|Bv z z z<|Ab<|be hF fun r1 hr3 hF=>Bi (fun l w=>∃x3:Int,x3=r1∧l=[(0,u1),(3,(ptr b1 0)),(5,(I x3))]∧Below w3.heap.size w3 w∧Ctx Fs.flatten w0 w [Ag b1 [(I a2.1),u2],Af u1 (a1:(List (Int × (List Int))))]) ?_ ?_
 ·refine AE z (fun hc2=>?_) (fun hc2=>?_)
  ·replace hr3:=A7 hr3 hc2
   refine Bg<|Ae z z<|Bc Ai (hC5.ro 1 z) z z<|Ad z z<|Ab<|?_
   obtain rfl:=Aa hr3
   exact Am (l':=[(0,u1),(3,(ptr b1 0)),(5,(I (List.length a1:Int)))]) ⟨z,z,z,Aj⟩<|⟨(List.length a1:Int),z,z,(Al _ _),hC5⟩
  replace hr3:=A8 hr3 hc2
  refine AF ?_
  obtain rfl:=Aa hr3
  exact Am (l':=[(0,u1),(3,(ptr b1 0)),(5,(I x2))]) ⟨z,z,z,Aj⟩<|⟨x2,z,z,(Al _ _),hC5⟩
 rintro l1 _ w4 hs1 ⟨x3,rfl,rfl,hB4,hC6⟩
 try dsimp only at hF
 refine AY hs1 ?_
 clear hs1
 refine Ac<|Ae z z<|Ae z z<|Au [(I a2.1),u2] hC6 0 z z z Bl AP z z<|be hF fun x4 hr4 hF=>AG Tryz.call130 z z (c_M_copyFact (a2.1,a2.2) u2 (g2.now hC6.keep) x4 hr4)<|?_
 rintro v1 w5 ⟨hB5,F1,hv3,hn1,hb1⟩
 have hC7:=hC6.push hB5 (A:=Af v1 x4) hv3 hn1 hb1
 obtain ⟨v2,rfl,hC8⟩:=st88_own hC7
 refine AC (vs:=[(.agg #[(I x4.1),v2])]) hC8 Ai ty88 z z z z (fac z<|fa0) z z (fun b2 w6 hC9 hB6=>?_)
 have hC10:=hC9.row0 (α:=(Int × (List Int)))
 have hC12:=hC10.f2
 have hC11:=Cc x4.1 v2 x4.2 hC12
 have hC13:=hC11.row1
 have hC14:=hC13.front 1 z
 dsimp only [List.eraseIdx,List.cons_append,List.nil_append,List.append_nil] at hC14
 have hC15:Ctx Fs.flatten w0 w6 (Af (.slice (some ⟨b2,0,none⟩) 1 1) ([(x4.1,x4.2)]:List (Int × (List Int)))::[Ag b1 [(I a2.1),u2],Af u1 (a1:(List (Int × (List Int))))]):=hC14.rowOwn (by simp [maxLen])
 refine be hF fun x5 hr5 hF=>have hC17:=hC15.f2;?_
 obtain ⟨Fs1,hH1,hn2,hF1,hO1,hb2⟩:=AX (As:=[Ag b1 [(I a2.1),u2]]) [Af u1 (a1:(List (Int × (List Int)))),Af (.slice (some ⟨b2,0,none⟩) 1 1) ([(x4.1,x4.2)]:(List (Int × (List Int))))] hC17
 refine AG Tryz.call129 z z (c_Slices_Insert_Limpl_Fact_impl_Fact a1 u1 x3 ([(x4.1,x4.2)]) (.slice (some ⟨b2,0,none⟩) 1 1) hH1 hn2 x5 hr5) ?_
 rintro v3 w7 ⟨_,rfl,hq4⟩
 have hC18:Ctx Fs.flatten w0 w7 [Af v3 (x5:(List (Int × (List Int)))),Ag b1 [(I a2.1),u2]]:=hb2 _ _ hq4
 refine Ad z z<|Ab<|AL<|?_
 obtain rfl:=Aa hF
 exact A2 z z<|have hC20:=hC18.h1;⟨_,z,_,z,hC20⟩
end Go.Gx.Px
