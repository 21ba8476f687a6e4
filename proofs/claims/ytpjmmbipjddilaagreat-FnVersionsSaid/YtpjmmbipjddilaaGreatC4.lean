/- The contracts of the Go functions against the pure functions, printed by program. Conditions: each says them. -/
import Derived.Test.YtpjmmbipjddilaaGreatC3
set_option linter.unusedVariables false
set_option linter.unusedSimpArgs false
set_option maxRecDepth 100000
set_option maxHeartbeats 4000000
namespace Go.Gx.Px
open Go.Proofs Go.RowKit
open K9
theorem c_M_IsAccess {w0:World} (a1:(List Int)) (u1:Value) (g1:RO [] w0 u1 a1) (a2:(List (Int × (List Int) × Int × Int × Int))) (u2:Value) (g2:RO [] w0 u2 a2) (a3:(Int × (List Int))) (u3:Value) (g3:RO [] w0 u3 a3.2) (rr:Bool) (hF:M.IsAccess a1 a2 a3=some rr) :
 Calls Tryz.prog 50 [u1,u2,(.agg #[(I a3.1),u3])].toArray w0 fun e w'=>∃v,e=.returned v∧Res w0 rr v w':=by
 refine A4 Tryz.func50 z z ?_
 have hC0:=AD w0
 unfold M.IsAccess at hF
 refine Ad<|B0 (cs:=[(I a3.1),u3]) hC0 z z z fun b1 w1 hC1 hB1 hN1=>Ag z z<|Ab<|be hF fun r1 hr1 hF=>BP (fun l w=>∃x1:Bool,x1=r1∧l=[(6,(.bool x1))]∧Below w1.heap.size w1 w∧Ctx [] w0 w []) ?_ ?_
 ·refine W_drawn 30 z hmix fun w3 hB3=>have hC3:=hC1.grow hB3;tm 0 z z z<|tm 1 z z z<|be hr1 fun x2 hr2 hr1=>oe 2 z<|cb Tryz.call81 z z (c_M_AreMethods a1 u1 (g1.now hC3.keep) a2 u2 (g2.now hC3.keep) x2 hr2) fun w4 hB4=>have hC4:=hC3.grow hB4;Ab<|tm 3 z z z<|BE (fun hc1=>?_) (fun hc1=>?_)
  ·replace hr1:=AF hr1 hc1
   refine tg 4 z z z z (B5 AQ z z (fun w=>⟨_,Az w⟩) z)<|Aj z z<|fd AQ Az z z z z<|Ab<|tn 6 z z z z z<|tg 7 z z z z (CZ Bl g2 z)<|Aj z z<|Bo Bl g2 z z<|Ab<|tg 8 z z z z (CJ z z)<|Aj z z<|Cb z z z<|Ab<|oe 5 z<|Aj z z<|At hC4 0 z z AA z z<|Ab<|be hr1 fun x3 hr3 hr1=>oe 9 z<|Aj z z<|cb BR z z (c_M_within a3.1 0 (w64 ((List.length a2:Int) - 1)) x3 hr3) fun w5 hB5=>have hC5:=hC4.grow hB5;Ab<|tp 10 z z z z<|tm 11 z z z<|BE (fun hc2=>?_) (fun hc2=>?_)
   ·replace hr1:=AF hr1 hc2
    refine tg 12 z z z z (B5 AQ z z (fun w=>⟨_,A2 w⟩) z)<|Aj z z<|fd AQ A2 z z z z<|Ab<|tn 15 z z z z z<|tg 16 z z z z (B5 AQ z z (fun w=>⟨_,Az w⟩) z)<|Aj z z<|fd AQ Az z z z z<|Ab<|be hr1 fun x4 hx1 hr1=>wAS (l':=[(0,u1),(1,u2),(2,(.agg #[(I a3.1),u3])),(5,(ptr b1 0)),(6,(.bool false)),(7,u1),(8,u2),(9,(.bool x2)),(10,(.bool true)),(11,(ptr b1 0)),(12,(I a3.1)),(13,u2),(14,(I (List.length a2:Int))),(15,(I (w64 ((List.length a2:Int) - 1)))),(16,(.bool x3)),(17,(.bool x3)),(18,(.bool true)),(19,(ptr b1 1)),(22,u2),(23,(ptr b1 0))]) ⟨z,z,z,z,z,z,z,z,z,z,z,z,z,z,z,z,z,z,z,z,Am⟩<|Bm [⟨13,[],fun vs=>AU u3,[]⟩,⟨14,[],fun vs=>AU (I (List.length a3.2:Int)),[]⟩,⟨17,[],fun vs=>AU (I a3.1),[]⟩,⟨18,[],fun vs=>Ce [] w0 x4,[]⟩,⟨19,[],fun vs=>Ce [] w0 x4.2.1,[]⟩,⟨20,[],fun vs=>Cw [] w0 x4.2.1,[]⟩,⟨21,[],fun vs=>AU (I (List.length x4.2.1:Int)),[]⟩] [[],[13],[],[17],[18],[19],[20]] 8 z (by kernel_rfl) (by kernel_rfl) z ?_ ?_
    ·refine An z ?_ ?_
     ·intro w6 hB6
      refine Av<|⟨_,z,?_⟩
      exact Aj z z<|At (hC5.grow hB6) 0 z z AT z z<|Ab<|A0 (Aq _ _) z z ⟨z,z⟩
     refine An z ?_ ?_
     ·intro w6 hB6
      refine A6 z z z ?_
      rintro _ _ ⟨rfl,rfl⟩ _
      refine Av<|⟨_,z,?_⟩
      exact Aj z z<|Bo Ap g3 z z<|Ab<|A0 (Aq _ _) z z ⟨z,z⟩
     refine An z ?_ ?_
     ·intro w6 hB6
      refine Av<|⟨_,z,?_⟩
      exact Aj z z<|At (hC5.grow hB6) 0 z z AA z z<|Ab<|A0 (Aq _ _) z z ⟨z,z⟩
     refine An z ?_ ?_
     ·intro w6 hB6
      refine A6 z z z ?_
      rintro _ _ ⟨rfl,rfl⟩ _
      refine Av<|⟨_,z,?_⟩
      exact Aj z z<|Bc Bl ty93 g2 hx1 z z z fun b2 o1 h1=>Ab<|A0 (Aq _ _) z z ⟨z,_,_,z,h1⟩
     refine An z ?_ ?_
     ·intro w6 hB6
      refine A6 z z z ?_
      rintro _ _ ⟨rfl,b2,o1,rfl,h1⟩ _
      refine Av<|⟨_,z,?_⟩
      exact Aj z z<|fd AO A2 z z z z<|Ab<|A0 (Aq _ _) z z ⟨z,_,_,z,h1.snd.fst⟩
     refine An z ?_ ?_
     ·intro w6 hB6
      refine A6 z z z ?_
      rintro _ _ ⟨rfl,b3,o2,rfl,h2⟩ _
      refine Av<|⟨_,z,?_⟩
      exact Aj z z<|Bf ty24 h2 (hC5.keep.then hB6) z z fun v1 h3=>Ab<|A0 (Aq _ _) z z ⟨z,h3⟩
     refine An z ?_ ?_
     ·intro w6 hB6
      refine A6 z z z ?_
      rintro v1 _ ⟨rfl,h3⟩ _
      refine Av<|⟨_,z,?_⟩
      exact Aj z z<|Bo Ap h3 z z<|Ab<|A0 (Aq _ _) z z ⟨z,z⟩
     exact Bd
    intro w7 hB7
    refine Au z z z ?_
    rintro _ _ ⟨rfl,rfl⟩
    refine Au z z z ?_
    rintro _ _ ⟨rfl,rfl⟩
    refine Au z z z ?_
    rintro _ _ ⟨rfl,rfl⟩
    refine Au z z z ?_
    rintro _ _ ⟨rfl,b2,o1,rfl,h1⟩
    refine Au z z z ?_
    rintro _ _ ⟨rfl,b3,o2,rfl,h2⟩
    refine Au z z z ?_
    rintro v1 _ ⟨rfl,h3⟩
    refine Au z z z ?_
    rintro _ _ ⟨rfl,rfl⟩
    refine Bn fun hn1 hb1=>have hC6:=hC5.grow hB7;tg 22 z z z z (fl_eql z z)<|Aj z z<|BO z z z<|Ab<|tp 23 z z z z<|tm 24 z z z<|BE (fun hc3=>?_) (fun hc3=>?_)
    ·replace hr1:=AF hr1 hc3
     refine tg 25 z z z z (B5 AQ z z (fun w=>⟨_,A2 w⟩) z)<|Aj z z<|fd AQ A2 z z z z<|Ab<|oe 26 z<|Aj z z<|At hC6 0 z z AT z z<|Ab<|be hr1 fun x5 hr4 hr1=>oe 27 z<|Aj z z<|cb Tryz.call71 z z (c_M_areValues a3.2 u3 (g3.now hC6.keep) x5 hr4) fun w9 hB8=>have hC7:=hC6.grow hB8;Ab<|tp 28 z z z z<|ta 29 z z z<|dn<|?_
     obtain rfl:=Aa hr1
     have hC8:=hC7.h0
     exact Ay (l':=[(6,(.bool x5))]) ⟨z,Am⟩<|⟨x5,z,z,(((((Ao hB3).then hB4).then hB5).then hB7).then hB8).below,hC8⟩
    replace hr1:=AG hr1 hc3
    refine sk 25 z z z z z<|sk 26 z z z z z<|sk 27 z z z z z<|tq 28 z z z z<|ta 29 z z z<|dn<|?_
    obtain rfl:=Aa hr1
    have hC9:=hC6.h0
    exact Ay (l':=[(6,(.bool false))]) ⟨z,Am⟩<|⟨false,z,z,((((Ao hB3).then hB4).then hB5).then hB7).below,hC9⟩
   replace hr1:=AG hr1 hc2
   refine sk 12 z z z z z<|sk 13 z z z z z<|sk 14 z z z z z<|sk 15 z z z z z<|sk 16 z z z z z<|sk 17 z z z z z<|sk 18 z z z z z<|sk 19 z z z z z<|sk 20 z z z z z<|sk 21 z z z z z<|sk 22 z z z z z<|tq 23 z z z z<|tm 24 z z z<|sk 25 z z z z z<|sk 26 z z z z z<|sk 27 z z z z z<|tq 28 z z z z<|ta 29 z z z<|dn<|?_
   obtain rfl:=Aa hr1
   have hC10:=hC5.h0
   exact Ay (l':=[(6,(.bool false))]) ⟨z,Am⟩<|⟨false,z,z,(((Ao hB3).then hB4).then hB5).below,hC10⟩
  replace hr1:=AG hr1 hc1
  refine sk 4 z z z z z<|sk 5 z z z z z<|sk 6 z z z z z<|sk 7 z z z z z<|sk 8 z z z z z<|sk 9 z z z z z<|tq 10 z z z z<|tm 11 z z z<|sk 12 z z z z z<|sk 13 z z z z z<|sk 14 z z z z z<|sk 15 z z z z z<|sk 16 z z z z z<|sk 17 z z z z z<|sk 18 z z z z z<|sk 19 z z z z z<|sk 20 z z z z z<|sk 21 z z z z z<|sk 22 z z z z z<|tq 23 z z z z<|tm 24 z z z<|sk 25 z z z z z<|sk 26 z z z z z<|sk 27 z z z z z<|tq 28 z z z z<|ta 29 z z z<|dn<|?_
  obtain rfl:=Aa hr1
  have hC11:=hC4.h0
  exact Ay (l':=[(6,(.bool false))]) ⟨z,Am⟩<|⟨false,z,z,((Ao hB3).then hB4).below,hC11⟩
 rintro _ w2 ⟨x1,rfl,rfl,hB2,hC2⟩
 try dsimp only at hF
 refine AL ?_
 obtain rfl:=Aa hF
 exact AE z z<|⟨_,z,Bh hC2 _⟩
theorem c_M_copyAccess {w0:World} (a1:(Int × (List Int))) (u1:Value) (g1:RO [] w0 u1 a1.2) (rr:(Int × (List Int))) (hF:M.copyAccess a1=some rr) :
 Calls Tryz.prog 51 [(.agg #[(I a1.1),u1])].toArray w0 fun e w'=>∃v,e=.returned v∧Res w0 rr v w':=by
 refine A4 Tryz.func51 z z ?_
 have hC0:=AD w0
 unfold M.copyAccess at hF
 refine Ad<|B0 (cs:=[(I a1.1),u1]) hC0 z z z fun b1 w1 hC1 hB1 hN1=>AW hC1 zero45 z z fun b2 w2 hC2 hB2 hN2=>Ab<|AC<|W_drawn 7 z hmix fun w3 hB3=>have hC3:=hC2.grow hB3;tf 0 AQ Az z z z z z<|tf 2 AQ A2 z z z z z<|be hF fun x1 hr1 hF=>wAS (l':=[(0,(.agg #[(I a1.1),u1])),(1,(ptr b1 0)),(2,(ptr b2 0)),(3,(ptr b1 0)),(5,(ptr b1 1))]) ⟨z,z,z,z,z,Am⟩<|Bm [⟨1,[],fun vs=>AU (I a1.1),[]⟩,⟨3,[],fun vs=>AU u1,[]⟩,⟨4,[],fun vs=>Ct x1,[]⟩] [[],[],[3]] 2 z (by kernel_rfl) (by kernel_rfl) z ?_ ?_
 ·refine An z ?_ ?_
  ·intro w5 hB5
   refine Av<|⟨_,z,?_⟩
   exact At (hC3.grow hB5) 1 z z AA z z<|Ab<|A0 (Aq _ _) z z ⟨z,z⟩
  refine An z ?_ ?_
  ·intro w5 hB5
   refine Av<|⟨_,z,?_⟩
   exact At (hC3.grow hB5) 1 z z AT z z<|Ab<|A0 (Aq _ _) z z ⟨z,z⟩
  refine An z ?_ ?_
  ·intro w5 hB5
   refine A6 z z z ?_
   rintro _ _ ⟨rfl,rfl⟩ _
   refine Av<|⟨_,z,?_⟩
   refine A8 Tryz.call82 z z (c_Slices_Clone_Lint_int a1.2 u1 (g1.now (hC3.keep.then hB5)) x1 hr1) ?_
   rintro v1 w4 ⟨hB4,F1,hv1,hn1,hb1⟩
   exact Ab<|Cn hB4 z z hv1 hn1 hb1 (Val.inh hv1)
  exact Bd
 intro w6 hB6
 refine Au z z z ?_
 rintro _ _ ⟨rfl,rfl⟩
 refine Au z z z ?_
 rintro _ _ ⟨rfl,rfl⟩
 refine Au z z z fun v1 F1 hv1=>Bn fun hn2 hb2=>?_
 have hC4:=hC3.pushL hB6 (Bs:=[Ae v1 (x1:(List Int))]) (Fs:=[F1]) ⟨F1,_,z,hv1,z⟩ (by simpa using hn2) (fun b h=>(hb2 b (by simpa using h)).1)
 refine tk 5 z z (Cm (vs:=[(0,(I a1.1)),(1,v1)]) z z (built45_0_1 z (Ca (hC4.ro 0 z))))<|BB (vs:=[(0,(I a1.1)),(1,v1)]) z z z (built45_0_1 z (Ca (hC4.ro 0 z)))<|Ab<|oe 6 z<|Al (cs':=[(I a1.1),v1]) (new:=[(I a1.1),v1]) hC4 1 z z (fac z<|fac (AP (hC4.ro 0 z))<|fa0) z Ba z z fun w7 hC5 hKp1=>?_
 try dsimp only [List.set] at hC5
 have hk1:=Ak ((((Ao hB1).then hB2).then hB3).then hB6) (Ai (Ao hB1).size hN2) hKp1
 have hk2:=Ak (((Ao hB2).then hB3).then hB6) hN2 hKp1
 refine Ab<|dn<|Ax<|AL<|?_
 obtain rfl:=Aa hF
 refine BM z (rv_cell_agg (cs':=[(I a1.1),v1]) hC5 (i:=1) z z z B8 Ba z) ?_
 have hC6:=CS a1.1 v1 x1 hC5
 exact ⟨_,z,Cd hC6 0 z⟩
theorem c_M_OpenCursor {w0:World} (a1:(List Int)) (u1:Value) (g1:RO [] w0 u1 a1) (a2:(List (Int × (List Int) × Int × Int × Int))) (u2:Value) (g2:RO [] w0 u2 a2) (a3:((List (Int × (List Int))) × Int)) (u3:Value) (g3:RO [] w0 u3 a3.1) (a4:(Int × (List Int))) (u4:Value) (g4:RO [] w0 u4 a4.2) (rr:(((Int × (List Int)) × Int × Int) × Bool)) (hF:M.OpenCursor a1 a2 a3 a4=some rr) :
 Calls Tryz.prog 17 [u1,u2,(.agg #[u3,(I a3.2)]),(.agg #[(I a4.1),u4])].toArray w0 fun e w'=>∃v,e=.returned v∧Res2 w0 rr.1 rr.2 v w':=by
 refine A4 Tryz.func17 z z ?_
 have hC0:=AD w0
 unfold M.OpenCursor at hF
 refine Ad<|B0 (cs:=[u3,(I a3.2)]) hC0 z z z fun b1 w1 hC1 hB1 hN1=>B0 (cs:=[(I a4.1),u4]) hC1 z z z fun b2 w2 hC2 hB2 hN2=>AW hC2 zero49 z z fun b3 w3 hC3 hB3 hN3=>Ag z z<|Ab<|AC<|be hF fun r1 hr1 hF=>BP (fun l w=>∃x1:Bool,x1=r1∧l=[(6,(ptr b1 0)),(7,(ptr b2 0)),(8,(ptr b3 0)),(20,(.bool x1))]∧Below w3.heap.size w3 w∧Ctx [] w0 w [Ac b3 [(I 0),(.slice none 0 0),(I 0),(I 0)],Ac b2 [(I a4.1),u4],Ac b1 [u3,(I a3.2)]]) ?_ ?_
 ·refine Bt<|Af z z<|Ar [u3,(I a3.2)] hC3 2 z z z A9 Aw z z<|be hr1 fun x2 hr2 hr1=>cb CQ z z (c_M_IsSource a1 u1 (g1.now hC3.keep) (a3.1,a3.2) u3 (g3.now hC3.keep) x2 hr2) fun w5 hB5=>have hC5:=hC3.grow hB5;B2 z z<|Af z z<|B3 (fun hc1=>?_) (fun hc1=>?_)
  ·replace hr1:=AF hr1 hc1
   refine gs z z z z<|gs z z z z<|gs z z z z<|gs z z z z<|gs z z z z<|AX z z z<|Ab<|?_
   obtain rfl:=Aa hr1
   exact Ay (l':=[(6,(ptr b1 0)),(7,(ptr b2 0)),(8,(ptr b3 0)),(20,(.bool true))]) ⟨z,z,z,z,Am⟩<|⟨true,z,z,(Ao hB5).below,hC5⟩
  replace hr1:=AG hr1 hc1
  refine Aj z z<|Af z z<|Aj z z<|Af z z<|Aj z z<|Ar [(I a4.1),u4] hC5 1 z z z B8 Ba z z<|be hr1 fun x3 hr3 hr1=>Aj z z<|cb Tryz.call50 z z (c_M_IsAccess a1 u1 (g1.now hC5.keep) a2 u2 (g2.now hC5.keep) (a4.1,a4.2) u4 (g4.now hC5.keep) x3 hr3) fun w6 hB6=>have hC6:=hC5.grow hB6;Aj z z<|B2 z z<|AH z z z<|Ab<|?_
  obtain rfl:=Aa hr1
  exact Ay (l':=[(6,(ptr b1 0)),(7,(ptr b2 0)),(8,(ptr b3 0)),(20,(.bool (!x3)))]) ⟨z,z,z,z,Am⟩<|⟨(!x3),z,z,((Ao hB5).then hB6).below,hC6⟩
 rintro _ w4 ⟨x1,rfl,rfl,hB4,hC4⟩
 try dsimp only at hF
 refine AN z (fun hc2=>?_) (fun hc2=>?_)
 ·replace hF:=AF hF hc2
  refine Ad<|BB (vs:=[]) z z z built49<|Al (cs':=[(I 0),(.slice none 0 0),(I 0),(I 0)]) (new:=[(I 0),(.slice none 0 0),(I 0),(I 0)]) hC4 0 z z (fac z<|fac z<|fac z<|fac z<|fa0) z A5 z z fun w7 hC7 hKp1=>?_
  try dsimp only [List.set] at hC7
  have hk1:=Ak ((((Ao hB1).then hB2).then hB3).then hB4) (Ai ((Ao hB1).then hB2).size hN3) hKp1
  have hk2:=Ak (((Ao hB2).then hB3).then hB4) (Ai (Ao hB2).size hN3) hKp1
  have hk3:=Ak ((Ao hB3).then hB4) hN3 hKp1
  refine Ag z z<|Ab<|AL<|A7<|?_
  obtain rfl:=Aa hF
  refine C4 z (rv_cell_agg (cs':=[(I 0),(.slice none 0 0),(I 0),(I 0)]) hC7 (i:=0) z z z Bg A5 z) (rv_tmp z) ?_
  have hC8:=hC7.triv (Ci (false))
  have hC10:=hC8.triv (nil_val (α:=Int))
  have hC9:=BW 0 (.slice none 0 0) ([]) 0 0 hC10
  exact ⟨_,z,res2_of hC9⟩
 replace hF:=AG hF hc2
 refine AR<|Ax<|AC<|W_drawn 7 z hmix fun w9 hB7=>have hC11:=hC4.grow hB7;tf 2 A1 Az z z z z z<|be hF fun x4 hr4 hF=>wAS (l':=[(6,(ptr b1 0)),(7,(ptr b2 0)),(8,(ptr b3 0)),(20,(.bool x1)),(24,(ptr b1 1))]) ⟨z,z,z,z,z,Am⟩<|Bm [⟨0,[],fun vs=>AU (.agg #[(I a4.1),u4]),[]⟩,⟨1,[],fun vs=>Ct x4,[]⟩,⟨3,[],fun vs=>AU (I a3.2),[]⟩] [[],[0],[]] 3 z (by kernel_rfl) (by kernel_rfl) z ?_ ?_
 ·refine An z ?_ ?_
  ·intro w11 hB9
   refine Av<|⟨_,z,?_⟩
   exact Ar [(I a4.1),u4] (hC11.grow hB9) 1 z z z B8 Ba z z<|Ab<|A0 (Aq _ _) z z ⟨z,z⟩
  refine An z ?_ ?_
  ·intro w11 hB9
   refine A6 z z z ?_
   rintro _ _ ⟨rfl,rfl⟩ _
   refine Av<|⟨_,z,?_⟩
   refine A8 Tryz.call51 z z (c_M_copyAccess (a4.1,a4.2) u4 (g4.now (hC11.keep.then hB9)) x4 hr4) ?_
   rintro v1 w10 ⟨hB8,F1,hv3,hn1,hb1⟩
   exact Ab<|Cn hB8 z z hv3 hn1 hb1 (Val.inh hv3)
  refine An z ?_ ?_
  ·intro w11 hB9
   refine Av<|⟨_,z,?_⟩
   exact At (hC11.grow hB9) 2 z z AA z z<|Ab<|A0 (Aq _ _) z z ⟨z,z⟩
  exact Bd
 intro w12 hB10
 refine Au z z z ?_
 rintro _ _ ⟨rfl,rfl⟩
 refine Au z z z fun v1 F1 hv3=>Au z z z<|?_
 rintro _ _ ⟨rfl,rfl⟩
 refine Bn ?_
 intro hn2 hb2
 have hC12:=hC11.pushL hB10 (Bs:=[Ae v1 (x4:(Int × (List Int)))]) (Fs:=[F1]) ⟨F1,_,z,hv3,z⟩ (by simpa using hn2) (fun b h=>(hb2 b (by simpa using h)).1)
 obtain ⟨v3,rfl,hC13⟩:=st45_own hC12
 refine tk 4 z z (Cm (vs:=[(0,(.agg #[(I x4.1),v3])),(2,(I a3.2))]) z z (built49_0_2 z z))<|BB (vs:=[(0,(.agg #[(I x4.1),v3])),(2,(I a3.2))]) z z z (built49_0_2 z z)<|Ab<|oe 5 z<|Al (cs':=[(I x4.1),v3,(I 0),(I a3.2)]) (new:=[(I x4.1),v3,(I 0),(I a3.2)]) hC13 1 z z (fac z<|fac (AP (hC13.ro 0 z))<|fac z<|fac z<|fa0) z A5 z z fun w13 hC14 hKp2=>?_
 try dsimp only [List.set] at hC14
 have hk4:=Ak ((((((Ao hB1).then hB2).then hB3).then hB4).then hB7).then hB10) (Ai ((Ao hB1).then hB2).size hN3) hKp2
 have hk5:=Ak (((((Ao hB2).then hB3).then hB4).then hB7).then hB10) (Ai (Ao hB2).size hN3) hKp2
 have hk6:=Ak ((((Ao hB3).then hB4).then hB7).then hB10) hN3 hKp2
 refine Ab<|ta 6 z z z<|dn<|Ax<|AL<|?_
 obtain rfl:=Aa hF
 refine C4 z (rv_cell_agg (cs':=[(I x4.1),v3,(I 0),(I a3.2)]) hC14 (i:=1) z z z Bg A5 z) (rv_tmp z) ?_
 have hC15:=hC14.triv (Ci (true))
 have hC17:=hC15.f1
 have hC16:=BW x4.1 v3 x4.2 0 a3.2 hC17
 exact ⟨_,z,res2_of hC16⟩
theorem c_S_IsMethod {w0:World} (a1:(List Int)) (u1:Value) (g1:RO [] w0 u1 a1) (a2:(Int × (List Int) × Int × Int × Int)) (u2:Value) (g2:RO [] w0 u2 a2.2.1) (rr:Bool) (hF:S.IsMethod a1 a2=some rr) :
 Calls Tryz.prog 103 [u1,(.agg #[(I a2.1),u2,(I a2.2.2.1),(I a2.2.2.2.1),(I a2.2.2.2.2)])].toArray w0 fun e w'=>∃v,e=.returned v∧Res w0 rr v w':=by
 refine A4 Tryz.func103 z z ?_
 have hC0:=AD w0
 unfold S.IsMethod at hF
 refine Ad<|B0 (cs:=[(I a2.1),u2,(I a2.2.2.1),(I a2.2.2.2.1),(I a2.2.2.2.2)]) hC0 z z z fun b1 w1 hC1 hB1 hN1=>Ag z z<|Ab<|AC<|be hF fun r1 hr1 hF=>BP (fun l w=>∃x1:Bool,x1=r1∧l=[(0,u1),(3,(ptr b1 0)),(35,(.bool x1))]∧Below w1.heap.size w1 w∧Ctx [] w0 w [Ac b1 [(I a2.1),u2,(I a2.2.2.1),(I a2.2.2.2.1),(I a2.2.2.2.2)]]) ?_ ?_
 ·refine Bt<|Af z z<|be hr1 fun x2 hr2 hr1=>cb Ck z z (c_S_IsSchema a1 u1 (g1.now hC1.keep) x2 hr2) fun w3 hB3=>have hC3:=hC1.grow hB3;B2 z z<|Af z z<|B3 (fun hc1=>?_) (fun hc1=>?_)
  ·replace hr1:=AF hr1 hc1
   refine gs z z z z<|gs z z z z<|gs z z z z<|gs z z z z<|gs z z z z<|gs z z z z<|gs z z z z<|AX z z z<|Af z z<|gs z z z z<|gs z z z z<|gs z z z z<|gs z z z z<|AX z z z<|Af z z<|gs z z z z<|gs z z z z<|gs z z z z<|gs z z z z<|AX z z z<|Af z z<|gs z z z z<|gs z z z z<|gs z z z z<|gs z z z z<|AX z z z<|Ab<|?_
   obtain rfl:=Aa hr1
   exact Ay (l':=[(0,u1),(3,(ptr b1 0)),(35,(.bool true))]) ⟨z,z,z,Am⟩<|⟨true,z,z,(Ao hB3).below,hC3⟩
  replace hr1:=AG hr1 hc1
  refine Aj z z<|fd AO Az z z z z<|Aj z z<|At hC3 0 z z AA z z<|Aj z z<|Af z z<|Aj z z<|Bo Ap g1 z z<|Aj z z<|Cb z z z<|be hr1 fun x3 hr3 hr1=>Aj z z<|cb BI z z (c_S_l1In a2.1 0 (w64 ((List.length a1:Int) - 1)) x3 hr3) fun w4 hB4=>have hC4:=hC3.grow hB4;Aj z z<|B2 z z<|AH z z z<|Af z z<|B3 (fun hc2=>?_) (fun hc2=>?_)
  ·replace hr1:=AF hr1 hc2
   refine gs z z z z<|gs z z z z<|gs z z z z<|gs z z z z<|AX z z z<|Af z z<|gs z z z z<|gs z z z z<|gs z z z z<|gs z z z z<|AX z z z<|Af z z<|gs z z z z<|gs z z z z<|gs z z z z<|gs z z z z<|AX z z z<|Ab<|?_
   obtain rfl:=Aa hr1
   exact Ay (l':=[(0,u1),(3,(ptr b1 0)),(35,(.bool true))]) ⟨z,z,z,Am⟩<|⟨true,z,z,((Ao hB3).then hB4).below,hC4⟩
  replace hr1:=AG hr1 hc2
  refine Aj z z<|fd AO Az z z z z<|Aj z z<|At hC4 0 z z AA z z<|be hr1 fun x4 hr4 hr1=>Aj z z<|cb BI z z (c_S_l1In a2.2.2.1 0 9 x4 hr4) fun w5 hB5=>have hC5:=hC4.grow hB5;Aj z z<|B2 z z<|AH z z z<|Af z z<|B3 (fun hc3=>?_) (fun hc3=>?_)
  ·replace hr1:=AF hr1 hc3
   refine gs z z z z<|gs z z z z<|gs z z z z<|gs z z z z<|AX z z z<|Af z z<|gs z z z z<|gs z z z z<|gs z z z z<|gs z z z z<|AX z z z<|Ab<|?_
   obtain rfl:=Aa hr1
   exact Ay (l':=[(0,u1),(3,(ptr b1 0)),(35,(.bool true))]) ⟨z,z,z,Am⟩<|⟨true,z,z,(((Ao hB3).then hB4).then hB5).below,hC5⟩
  replace hr1:=AG hr1 hc3
  refine Aj z z<|fd AO Az z z z z<|Aj z z<|At hC5 0 z z AA z z<|be hr1 fun x5 hr5 hr1=>Aj z z<|cb BI z z (c_S_l1In a2.2.2.2.1 0 99 x5 hr5) fun w6 hB6=>have hC6:=hC5.grow hB6;Aj z z<|B2 z z<|AH z z z<|Af z z<|B3 (fun hc4=>?_) (fun hc4=>?_)
  ·replace hr1:=AF hr1 hc4
   refine gs z z z z<|gs z z z z<|gs z z z z<|gs z z z z<|AX z z z<|Ab<|?_
   obtain rfl:=Aa hr1
   exact Ay (l':=[(0,u1),(3,(ptr b1 0)),(35,(.bool true))]) ⟨z,z,z,Am⟩<|⟨true,z,z,((((Ao hB3).then hB4).then hB5).then hB6).below,hC6⟩
  replace hr1:=AG hr1 hc4
  refine Aj z z<|fd AO Az z z z z<|Aj z z<|At hC6 0 z z AA z z<|be hr1 fun x6 hr6 hr1=>Aj z z<|cb BI z z (c_S_l1In a2.2.2.2.2 1 99 x6 hr6) fun w7 hB7=>have hC7:=hC6.grow hB7;Aj z z<|B2 z z<|AH z z z<|Ab<|?_
  obtain rfl:=Aa hr1
  exact Ay (l':=[(0,u1),(3,(ptr b1 0)),(35,(.bool (!x6)))]) ⟨z,z,z,Am⟩<|⟨(!x6),z,z,(((((Ao hB3).then hB4).then hB5).then hB6).then hB7).below,hC7⟩
 rintro _ w2 ⟨x1,rfl,rfl,hB2,hC2⟩
 try dsimp only at hF
 refine AN z (fun hc5=>?_) (fun hc5=>?_)
 ·replace hF:=AF hF hc5
  refine Ad<|Ag z z<|Ab<|AL<|A7<|?_
  obtain rfl:=Aa hF
  exact AE z z<|⟨_,z,Bh hC2 _⟩
 replace hF:=AG hF hc5
 refine AR<|Ax<|AC<|Ad<|Ag z z<|Ab<|be hF fun r2 hr7 hF=>Bv (fun l w=>.inl ()=r2∧l=[]∧Below w2.heap.size w2 w∧Ctx [] w0 w []) ?_ ?_
 ·refine Bb<|wS (l':=[(0,u1),(3,(ptr b1 0)),(5,(I 0))]) ⟨z,z,z,Am⟩<|BC (fun k l w=>∃x7:Int,l=[(0,u1),(3,(ptr b1 0)),(5,(I x7))]∧Below w2.heap.size w2 w∧Ctx [] w0 w [Ac b1 [(I a2.1),u2,(I a2.2.2.1),(I a2.2.2.2.1),(I a2.2.2.2.2)]]∧S.IsMethod_l1 a2 a1 k x7=some r2) FUEL ⟨0,z,(Aq _ _),hC2,hr7⟩<|?_
  clear hr7
  rintro k1 _ w9 ⟨x7,rfl,hB8,hC8,hL1⟩
  cases k1 with
  | zero=>rw [S.IsMethod_l1] at hL1; cases hL1
  | succ k1 =>
   rw [S.IsMethod_l1] at hL1
   refine AC<|Ad<|Af z z<|fd AO A2 z z z z<|At hC8 0 z z AT z z<|Bo Ap g2 z z<|B6 z z z<|Ab<|AN z (fun hc6=>?_) (fun hc6=>?_)
   ·replace hL1:=AF hL1 hc6
    refine AR<|Ax<|AC<|Bb<|be hL1 fun r3 hr8 hL1=>BP (fun l w=>∃x8:Bool,x8=r3∧l=[(0,u1),(3,(ptr b1 0)),(5,(I x7)),(73,(.bool x8))]∧Below w9.heap.size w9 w∧Ctx [] w0 w [Ac b1 [(I a2.1),u2,(I a2.2.2.1),(I a2.2.2.2.1),(I a2.2.2.2.2)]]) ?_ ?_
    ·refine W_drawn 31 z hmix fun w11 hB10=>have hC10:=hC8.grow hB10;tf 0 AO A2 z z z z z<|tm 2 z z z<|tm 5 z z z<|tf 6 AO Az z z z z z<|be hr8 fun x9 hx1 hr8=>be hr8 fun x10 hx2 hr8=>wAS (l':=[(0,u1),(3,(ptr b1 0)),(5,(I x7)),(36,(I x7)),(37,(ptr b1 1)),(38,u2),(39,(I (List.length a2.2.1:Int))),(40,(.bool (decide (x7 < (List.length a2.2.1:Int))))),(43,(ptr b1 1)),(45,(I x7)),(48,u1),(49,(ptr b1 0))]) ⟨z,z,z,z,z,z,z,z,z,z,z,z,Am⟩<|Bm [⟨1,[],fun vs=>AU u2,[]⟩,⟨3,[],fun vs=>Ce [] w0 x9,[]⟩,⟨4,[],fun vs=>AU (I x9),[]⟩,⟨7,[],fun vs=>AU (I a2.1),[]⟩,⟨8,[],fun vs=>Ce [] w0 x10,[]⟩,⟨9,[],fun vs=>AU (I x10),[]⟩,⟨10,[],fun vs=>AU (I (w64 (x10 - 1))),[]⟩] [[],[1],[3],[],[7],[8],[9]] 20 z (by kernel_rfl) (by kernel_rfl) z ?_ ?_
     ·refine An z ?_ ?_
      ·intro w12 hB11
       refine Av<|⟨_,z,?_⟩
       exact At (hC10.grow hB11) 0 z z AT z z<|Ab<|A0 (Aq _ _) z z ⟨z,z⟩
      refine An z ?_ ?_
      ·intro w12 hB11
       refine A6 z z z ?_
       rintro _ _ ⟨rfl,rfl⟩ _
       refine Av<|⟨_,z,?_⟩
       exact Bc Ap ty3 g2 hx1 z z z fun b2 o1 h1=>Ab<|A0 (Aq _ _) z z ⟨z,_,_,z,h1⟩
      refine An z ?_ ?_
      ·intro w12 hB11
       refine A6 z z z ?_
       rintro _ _ ⟨rfl,b2,o1,rfl,h1⟩ _
       refine Av<|⟨_,z,?_⟩
       refine Bf ty3 h1 (hC10.keep.then hB11) z z (fun v1 h2=>?_)
       obtain rfl:=BG h2
       exact Ab<|A0 (Aq _ _) z z ⟨z,z⟩
      refine An z ?_ ?_
      ·intro w12 hB11
       refine Av<|⟨_,z,?_⟩
       exact At (hC10.grow hB11) 0 z z AA z z<|Ab<|A0 (Aq _ _) z z ⟨z,z⟩
      refine An z ?_ ?_
      ·intro w12 hB11
       refine A6 z z z ?_
       rintro _ _ ⟨rfl,rfl⟩ _
       refine Av<|⟨_,z,?_⟩
       exact Bc Ap ty3 g1 hx2 z z z fun b3 o2 h3=>Ab<|A0 (Aq _ _) z z ⟨z,_,_,z,h3⟩
      refine An z ?_ ?_
      ·intro w12 hB11
       refine A6 z z z ?_
       rintro _ _ ⟨rfl,b3,o2,rfl,h3⟩ _
       refine Av<|⟨_,z,?_⟩
       refine Bf ty3 h3 (hC10.keep.then hB11) z z (fun v2 h4=>?_)
       obtain rfl:=BG h4
       exact Ab<|A0 (Aq _ _) z z ⟨z,z⟩
      refine An z ?_ ?_
      ·intro w12 hB11
       refine A6 z z z ?_
       rintro _ _ ⟨rfl,rfl⟩ _
       refine Av<|⟨_,z,?_⟩
       exact Cb z z z<|Ab<|A0 (Aq _ _) z z ⟨z,z⟩
      exact Bd
     intro w13 hB12
     refine Au z z z ?_
     rintro _ _ ⟨rfl,rfl⟩
     refine Au z z z ?_
     rintro _ _ ⟨rfl,b2,o1,rfl,h1⟩
     refine Au z z z ?_
     rintro _ _ ⟨rfl,rfl⟩
     refine Au z z z ?_
     rintro _ _ ⟨rfl,rfl⟩
     refine Au z z z ?_
     rintro _ _ ⟨rfl,b3,o2,rfl,h3⟩
     refine Au z z z ?_
     rintro _ _ ⟨rfl,rfl⟩
     refine Au z z z ?_
     rintro _ _ ⟨rfl,rfl⟩
     refine Bn fun hn1 hb1=>have hC11:=hC10.grow hB12;be hr8 fun x11 hr9 hr8=>oe 11 z<|cb BI z z (c_S_l1In x9 0 (w64 (x10 - 1)) x11 hr9) fun w14 hB13=>have hC12:=hC11.grow hB13;Ab<|tk 12 z z (Cy z)<|B2 z z<|Ab<|tm 13 z z z<|BE (fun hc7=>?_) (fun hc7=>?_)
     ·replace hr8:=AF hr8 hc7
      refine sk 14 z z z z z<|sk 15 z z z z z<|sk 16 z z z z z<|sk 17 z z z z z<|sk 18 z z z z z<|sk 19 z z z z z<|sk 20 z z z z z<|sk 21 z z z z z<|sk 22 z z z z z<|sk 23 z z z z z<|sk 24 z z z z z<|sk 25 z z z z z<|sk 26 z z z z z<|sk 27 z z z z z<|sk 28 z z z z z<|sk 29 z z z z z<|tp 30 z z z z<|dn<|?_
      obtain rfl:=Aa hr8
      exact Ay (l':=[(0,u1),(3,(ptr b1 0)),(5,(I x7)),(73,(.bool true))]) ⟨z,z,z,z,Am⟩<|⟨true,z,z,(((Ao hB10).then hB12).then hB13).below,hC12⟩
     replace hr8:=AG hr8 hc7
     refine tn 14 z z z z z<|tg 15 z z z z (fl_gtr z z)<|Aj z z<|Cs z z z<|Ab<|tn 16 z z z z z<|BE (fun hc8=>?_) (fun hc8=>?_)
     ·replace hr8:=AF hr8 hc8
      refine tg 17 z z z z (B5 AO z z (fun w=>⟨_,A2 w⟩) z)<|Aj z z<|fd AO A2 z z z z<|Ab<|tn 19 z z z z z<|tg 22 z z z z (B5 AO z z (fun w=>⟨_,A2 w⟩) z)<|Aj z z<|fd AO A2 z z z z<|Ab<|tn 24 z z z z z<|tg 25 z z z z (CJ z z)<|Aj z z<|Cb z z z<|Ab<|be hr8 fun x12 hx3 hr8=>be hr8 fun x13 hx4 hr8=>wAS (l':=[(0,u1),(3,(ptr b1 0)),(5,(I x7)),(36,(I x7)),(37,(ptr b1 1)),(38,u2),(39,(I (List.length a2.2.1:Int))),(40,(.bool (decide (x7 < (List.length a2.2.1:Int))))),(43,(ptr b1 1)),(44,u2),(45,(I x7)),(46,(ptr b2 o1)),(47,(I x9)),(48,u1),(49,(ptr b1 0)),(50,(I a2.1)),(51,(ptr b3 o2)),(52,(I x10)),(53,(I (w64 (x10 - 1)))),(54,(.bool x11)),(55,(.bool (!x11))),(56,(.bool false)),(57,(I x7)),(58,(.bool (decide (0 < x7)))),(59,(.bool true)),(60,(ptr b1 1)),(62,(I x7)),(65,(ptr b1 1)),(67,(I x7)),(68,(I (w64 (x7 - 1))))]) ⟨z,z,z,z,z,z,z,z,z,z,z,z,z,z,z,z,z,z,z,z,z,z,z,z,z,z,z,z,z,z,Am⟩<|Bm [⟨18,[],fun vs=>AU u2,[]⟩,⟨20,[],fun vs=>Ce [] w0 x12,[]⟩,⟨21,[],fun vs=>AU (I x12),[]⟩,⟨23,[],fun vs=>AU u2,[]⟩,⟨26,[],fun vs=>Ce [] w0 x13,[]⟩,⟨27,[],fun vs=>AU (I x13),[]⟩] [[],[18],[20],[],[23],[26]] 3 z (by kernel_rfl) (by kernel_rfl) z ?_ ?_
      ·refine An z ?_ ?_
       ·intro w15 hB14
        refine Av<|⟨_,z,?_⟩
        exact Aj z z<|At (hC12.grow hB14) 0 z z AT z z<|Ab<|A0 (Aq _ _) z z ⟨z,z⟩
       refine An z ?_ ?_
       ·intro w15 hB14
        refine A6 z z z ?_
        rintro _ _ ⟨rfl,rfl⟩ _
        refine Av<|⟨_,z,?_⟩
        exact Aj z z<|Bc Ap ty3 g2 hx3 z z z fun b4 o3 h5=>Ab<|A0 (Aq _ _) z z ⟨z,_,_,z,h5⟩
       refine An z ?_ ?_
       ·intro w15 hB14
        refine A6 z z z ?_
        rintro _ _ ⟨rfl,b4,o3,rfl,h5⟩ _
        refine Av<|⟨_,z,?_⟩
        refine Aj z z<|Bf ty3 h5 (hC12.keep.then hB14) z z fun v3 h6=>?_
        obtain rfl:=BG h6
        exact Ab<|A0 (Aq _ _) z z ⟨z,z⟩
       refine An z ?_ ?_
       ·intro w15 hB14
        refine Av<|⟨_,z,?_⟩
        exact Aj z z<|At (hC12.grow hB14) 0 z z AT z z<|Ab<|A0 (Aq _ _) z z ⟨z,z⟩
       refine An z ?_ ?_
       ·intro w15 hB14
        refine A6 z z z ?_
        rintro _ _ ⟨rfl,rfl⟩ _
        refine Av<|⟨_,z,?_⟩
        exact Aj z z<|Bc Ap ty3 g2 hx4 z z z fun b5 o4 h7=>Ab<|A0 (Aq _ _) z z ⟨z,_,_,z,h7⟩
       refine An z ?_ ?_
       ·intro w15 hB14
        refine A6 z z z ?_
        rintro _ _ ⟨rfl,b5,o4,rfl,h7⟩ _
        refine Av<|⟨_,z,?_⟩
        refine Aj z z<|Bf ty3 h7 (hC12.keep.then hB14) z z fun v4 h8=>?_
        obtain rfl:=BG h8
        exact Ab<|A0 (Aq _ _) z z ⟨z,z⟩
       exact Bd
      intro w16 hB15
      refine Au z z z ?_
      rintro _ _ ⟨rfl,rfl⟩
      refine Au z z z ?_
      rintro _ _ ⟨rfl,b4,o3,rfl,h5⟩
      refine Au z z z ?_
      rintro _ _ ⟨rfl,rfl⟩
      refine Au z z z ?_
      rintro _ _ ⟨rfl,rfl⟩
      refine Au z z z ?_
      rintro _ _ ⟨rfl,b5,o4,rfl,h7⟩
      refine Au z z z ?_
      rintro _ _ ⟨rfl,rfl⟩
      refine Bn fun hn2 hb2=>have hC13:=hC12.grow hB15;tg 28 z z z z (fl_leq z z)<|Aj z z<|CH z z z<|Ab<|tg 29 z z z z (C9 z z)<|Aj z z<|AX z z z<|Ab<|tq 30 z z z z<|dn<|?_
      obtain rfl:=Aa hr8
      exact Ay (l':=[(0,u1),(3,(ptr b1 0)),(5,(I x7)),(73,(.bool (decide (x12 ≤ x13))))]) ⟨z,z,z,z,Am⟩<|⟨(decide (x12 ≤ x13)),z,z,((((Ao hB10).then hB12).then hB13).then hB15).below,hC13⟩
     replace hr8:=AG hr8 hc8
     refine sk 17 z z z z z<|sk 18 z z z z z<|sk 19 z z z z z<|sk 20 z z z z z<|sk 21 z z z z z<|sk 22 z z z z z<|sk 23 z z z z z<|sk 24 z z z z z<|sk 25 z z z z z<|sk 26 z z z z z<|sk 27 z z z z z<|sk 28 z z z z z<|tg 29 z z z z (CA z z)<|Aj z z<|AH z z z<|Ab<|tq 30 z z z z<|dn<|?_
     obtain rfl:=Aa hr8
     exact Ay (l':=[(0,u1),(3,(ptr b1 0)),(5,(I x7)),(73,(.bool false))]) ⟨z,z,z,z,Am⟩<|⟨false,z,z,(((Ao hB10).then hB12).then hB13).below,hC12⟩
    rintro _ w10 ⟨x8,rfl,rfl,hB9,hC9⟩
    try dsimp only at hL1
    refine AN z (fun hc9=>?_) (fun hc9=>?_)
    ·replace hL1:=AF hL1 hc9
     refine Ad<|Ag z z<|Ab<|AL<|Bz<|A7<|A7<|Bz<|A7<|A7<|?_
     obtain rfl:=Aa hL1
     dsimp only at hF
     obtain rfl:=Aa hF
     exact AE z z<|⟨_,z,Bh hC9 _⟩
    replace hL1:=AG hL1 hc9
    exact AR<|Bi<|Ax<|Bt<|Af z z<|By z z z<|Ag z z<|Ab<|Ay (l':=[(0,u1),(3,(ptr b1 0)),(5,(I (w64 (x7+1))))]) ⟨z,z,z,Am⟩<|⟨k1,AS _,w64 (x7+1),z,((Ao hB8).then hB9).below,hC9,hL1⟩
   replace hL1:=AG hL1 hc6
   refine BD (AY (AY (B1 ?_)))
   obtain rfl:=Aa hL1
   have hC14:=hC8.h0
   exact Ay (l':=[]) Am<|⟨z,z,(Ao hB8).below,hC14⟩
 rintro l4 _ w17 hs4 ⟨rfl,rfl,hB16,hC15⟩
 try dsimp only at hF
 refine Bj hs4 ?_
 clear hs4
 refine Ad<|Ag z z<|Ab<|AL<|?_
 obtain rfl:=Aa hF
 exact AE z z<|⟨_,z,Bh hC15 _⟩
theorem c_S_AreMethods {w0:World} (a1:(List Int)) (u1:Value) (g1:RO [] w0 u1 a1) (a2:(List (Int × (List Int) × Int × Int × Int))) (u2:Value) (g2:RO [] w0 u2 a2) (rr:Bool) (hF:S.AreMethods a1 a2=some rr) :
 Calls Tryz.prog 83 [u1,u2].toArray w0 fun e w'=>∃v,e=.returned v∧Res w0 rr v w':=by
 refine A4 Tryz.func83 z z ?_
 have hC0:=AD w0
 unfold S.AreMethods at hF
 refine Ad<|Ag z z<|Ab<|AC<|Ad<|Ag z z<|Ab<|be hF fun r1 hr1 hF=>Bv (fun l w=>.inl ()=r1∧l=[(0,u1),(1,u2)]∧Below w0.heap.size w0 w∧Ctx [] w0 w []) ?_ ?_
 ·refine Bb<|wS (l':=[(0,u1),(1,u2),(5,(I 0))]) ⟨z,z,z,Am⟩<|BC (fun k l w=>∃x1:Int,l=[(0,u1),(1,u2),(5,(I x1))]∧Below w0.heap.size w0 w∧Ctx [] w0 w []∧S.AreMethods_l1 a2 a1 k x1=some r1) FUEL ⟨0,z,(Aq _ _),hC0,hr1⟩<|?_
  clear hr1
  rintro k1 _ w1 ⟨x1,rfl,hB1,hC1,hL1⟩
  cases k1 with
  | zero=>rw [S.AreMethods_l1] at hL1; cases hL1
  | succ k1 =>
   rw [S.AreMethods_l1] at hL1
   refine AC<|Ad<|Af z z<|Af z z<|Bo Bl g2 z z<|B6 z z z<|Ab<|AN z (fun hc1=>?_) (fun hc1=>?_)
   ·replace hL1:=AF hL1 hc1
    refine AR<|Ax<|AC<|Bb<|Ad<|Af z z<|Af z z<|Af z z<|be hL1 fun x2 hx1 hL1=>Bc Bl ty93 g2 hx1 z z z fun b1 o1 h1=>Bf ty93 h1 hC1.keep z z fun v1 h2=>?_
    obtain ⟨v2,rfl,h3⟩:=CX h2
    refine be hL1 fun x3 hr2 hL1=>cb Tryz.call103 z z (c_S_IsMethod a1 u1 (g1.now hC1.keep) x2 v2 (h3.now hC1.keep) x3 hr2) fun w2 hB2=>have hC2:=hC1.grow hB2;B2 z z<|Ab<|AN z (fun hc2=>?_) (fun hc2=>?_)
    ·replace hL1:=AF hL1 hc2
     refine Ad<|Ag z z<|Ab<|AL<|Bz<|A7<|A7<|Bz<|A7<|A7<|?_
     obtain rfl:=Aa hL1
     dsimp only at hF
     obtain rfl:=Aa hF
     exact AE z z<|⟨_,z,Bh hC2 _⟩
    replace hL1:=AG hL1 hc2
    exact AR<|Bi<|Ax<|Bt<|Af z z<|By z z z<|Ag z z<|Ab<|Ay (l':=[(0,u1),(1,u2),(5,(I (w64 (x1+1))))]) ⟨z,z,z,Am⟩<|⟨k1,AS _,w64 (x1+1),z,((Ao hB1).then hB2).below,hC2,hL1⟩
   replace hL1:=AG hL1 hc1
   refine BD (AY (AY (B1 ?_)))
   obtain rfl:=Aa hL1
   exact Ay (l':=[(0,u1),(1,u2)]) ⟨z,z,Am⟩<|⟨z,z,(Ao hB1).below,hC1⟩
 rintro l2 _ w3 hs2 ⟨rfl,rfl,hB3,hC3⟩
 try dsimp only at hF
 refine Bj hs2 ?_
 clear hs2
 refine be hF fun r2 hr3 hF=>BP (fun l w=>∃x4:Bool,x4=r2∧l=[(4,(.bool x4))]∧Below w3.heap.size w3 w∧Ctx [] w0 w []) ?_ ?_
 ·refine Bt<|Af z z<|be hr3 fun x5 hr4 hr3=>cb Ck z z (c_S_IsSchema a1 u1 (g1.now hC3.keep) x5 hr4) fun w5 hB5=>have hC5:=hC3.grow hB5;Af z z<|B3 (fun hc3=>?_) (fun hc3=>?_)
  ·replace hr3:=AF hr3 hc3
   refine Aj z z<|Af z z<|Aj z z<|Bo Bl g2 z z<|Aj z z<|CH z z z<|AX z z z<|Ag z z<|Ab<|?_
   obtain rfl:=Aa hr3
   exact Ay (l':=[(4,(.bool (decide ((List.length a2:Int) ≤ 5))))]) ⟨z,Am⟩<|⟨(decide ((List.length a2:Int) ≤ 5)),z,z,(Ao hB5).below,hC5⟩
  replace hr3:=AG hr3 hc3
  refine gs z z z z<|gs z z z z<|gs z z z z<|AH z z z<|Ag z z<|Ab<|?_
  obtain rfl:=Aa hr3
  exact Ay (l':=[(4,(.bool false))]) ⟨z,Am⟩<|⟨false,z,z,(Ao hB5).below,hC5⟩
 rintro _ w4 ⟨x4,rfl,rfl,hB4,hC4⟩
 try dsimp only at hF
 refine AL ?_
 obtain rfl:=Aa hF
 exact AE z z<|⟨_,z,Bh hC4 _⟩
theorem c_S_IsAccess {w0:World} (a1:(List Int)) (u1:Value) (g1:RO [] w0 u1 a1) (a2:(List (Int × (List Int) × Int × Int × Int))) (u2:Value) (g2:RO [] w0 u2 a2) (a3:(Int × (List Int))) (u3:Value) (g3:RO [] w0 u3 a3.2) (rr:Bool) (hF:S.IsAccess a1 a2 a3=some rr) :
 Calls Tryz.prog 52 [u1,u2,(.agg #[(I a3.1),u3])].toArray w0 fun e w'=>∃v,e=.returned v∧Res w0 rr v w':=by
 refine A4 Tryz.func52 z z ?_
 have hC0:=AD w0
 unfold S.IsAccess at hF
 refine Ad<|B0 (cs:=[(I a3.1),u3]) hC0 z z z fun b1 w1 hC1 hB1 hN1=>Ag z z<|Ab<|AC<|be hF fun r1 hr1 hF=>BP (fun l w=>∃x1:Bool,x1=r1∧l=[(5,(ptr b1 0)),(33,(.bool x1))]∧Below w1.heap.size w1 w∧Ctx [] w0 w [Ac b1 [(I a3.1),u3]]) ?_ ?_
 ·refine W_drawn 26 z hmix fun w3 hB3=>have hC3:=hC1.grow hB3;tm 0 z z z<|tm 1 z z z<|be hr1 fun x2 hr2 hr1=>oe 2 z<|cb Tryz.call83 z z (c_S_AreMethods a1 u1 (g1.now hC3.keep) a2 u2 (g2.now hC3.keep) x2 hr2) fun w4 hB4=>have hC4:=hC3.grow hB4;Ab<|tk 3 z z (Cy z)<|B2 z z<|Ab<|tm 4 z z z<|BE (fun hc1=>?_) (fun hc1=>?_)
  ·replace hr1:=AF hr1 hc1
   refine sk 5 z z z z z<|sk 6 z z z z z<|sk 7 z z z z z<|sk 8 z z z z z<|sk 9 z z z z z<|sk 10 z z z z z<|sk 11 z z z z z<|tp 12 z z z z<|tm 13 z z z<|sk 14 z z z z z<|sk 15 z z z z z<|sk 16 z z z z z<|sk 17 z z z z z<|sk 18 z z z z z<|sk 19 z z z z z<|sk 20 z z z z z<|sk 21 z z z z z<|sk 22 z z z z z<|sk 23 z z z z z<|sk 24 z z z z z<|tp 25 z z z z<|dn<|?_
   obtain rfl:=Aa hr1
   exact Ay (l':=[(5,(ptr b1 0)),(33,(.bool true))]) ⟨z,z,Am⟩<|⟨true,z,z,((Ao hB3).then hB4).below,hC4⟩
  replace hr1:=AG hr1 hc1
  refine tg 5 z z z z (B5 AQ z z (fun w=>⟨_,Az w⟩) z)<|Aj z z<|fd AQ Az z z z z<|Ab<|tn 7 z z z z z<|tg 8 z z z z (CZ Bl g2 z)<|Aj z z<|Bo Bl g2 z z<|Ab<|tg 9 z z z z (CJ z z)<|Aj z z<|Cb z z z<|Ab<|oe 6 z<|Aj z z<|At hC4 0 z z AA z z<|Ab<|be hr1 fun x3 hr3 hr1=>oe 10 z<|Aj z z<|cb BI z z (c_S_l1In a3.1 0 (w64 ((List.length a2:Int) - 1)) x3 hr3) fun w5 hB5=>have hC5:=hC4.grow hB5;Ab<|tg 11 z z z z (Cy z)<|Aj z z<|B2 z z<|Ab<|tq 12 z z z z<|tm 13 z z z<|BE (fun hc2=>?_) (fun hc2=>?_)
  ·replace hr1:=AF hr1 hc2
   refine sk 14 z z z z z<|sk 15 z z z z z<|sk 16 z z z z z<|sk 17 z z z z z<|sk 18 z z z z z<|sk 19 z z z z z<|sk 20 z z z z z<|sk 21 z z z z z<|sk 22 z z z z z<|sk 23 z z z z z<|sk 24 z z z z z<|tp 25 z z z z<|dn<|?_
   obtain rfl:=Aa hr1
   exact Ay (l':=[(5,(ptr b1 0)),(33,(.bool true))]) ⟨z,z,Am⟩<|⟨true,z,z,(((Ao hB3).then hB4).then hB5).below,hC5⟩
  replace hr1:=AG hr1 hc2
  refine tg 14 z z z z (B5 AQ z z (fun w=>⟨_,A2 w⟩) z)<|Aj z z<|fd AQ A2 z z z z<|Ab<|tn 17 z z z z z<|tg 18 z z z z (B5 AQ z z (fun w=>⟨_,Az w⟩) z)<|Aj z z<|fd AQ Az z z z z<|Ab<|be hr1 fun x4 hx1 hr1=>wAS (l':=[(0,u1),(1,u2),(2,(.agg #[(I a3.1),u3])),(5,(ptr b1 0)),(6,(.bool false)),(8,u1),(9,u2),(10,(.bool x2)),(11,(.bool (!x2))),(12,(.bool false)),(13,(ptr b1 0)),(14,(I a3.1)),(15,u2),(16,(I (List.length a2:Int))),(17,(I (w64 ((List.length a2:Int) - 1)))),(18,(.bool x3)),(19,(.bool (!x3))),(20,(.bool (!x3))),(21,(.bool false)),(22,(ptr b1 1)),(25,u2),(26,(ptr b1 0))]) ⟨z,z,z,z,z,z,z,z,z,z,z,z,z,z,z,z,z,z,z,z,z,z,Am⟩<|Bm [⟨15,[],fun vs=>AU u3,[]⟩,⟨16,[],fun vs=>AU (I (List.length a3.2:Int)),[]⟩,⟨19,[],fun vs=>AU (I a3.1),[]⟩,⟨20,[],fun vs=>Ce [] w0 x4,[]⟩,⟨21,[],fun vs=>Ce [] w0 x4.2.1,[]⟩,⟨22,[],fun vs=>Cw [] w0 x4.2.1,[]⟩,⟨23,[],fun vs=>AU (I (List.length x4.2.1:Int)),[]⟩] [[],[15],[],[19],[20],[21],[22]] 2 z (by kernel_rfl) (by kernel_rfl) z ?_ ?_
  ·refine An z ?_ ?_
   ·intro w6 hB6
    refine Av<|⟨_,z,?_⟩
    exact Aj z z<|At (hC5.grow hB6) 0 z z AT z z<|Ab<|A0 (Aq _ _) z z ⟨z,z⟩
   refine An z ?_ ?_
   ·intro w6 hB6
    refine A6 z z z ?_
    rintro _ _ ⟨rfl,rfl⟩ _
    refine Av<|⟨_,z,?_⟩
    exact Aj z z<|Bo Ap g3 z z<|Ab<|A0 (Aq _ _) z z ⟨z,z⟩
   refine An z ?_ ?_
   ·intro w6 hB6
    refine Av<|⟨_,z,?_⟩
    exact Aj z z<|At (hC5.grow hB6) 0 z z AA z z<|Ab<|A0 (Aq _ _) z z ⟨z,z⟩
   refine An z ?_ ?_
   ·intro w6 hB6
    refine A6 z z z ?_
    rintro _ _ ⟨rfl,rfl⟩ _
    refine Av<|⟨_,z,?_⟩
    exact Aj z z<|Bc Bl ty93 g2 hx1 z z z fun b2 o1 h1=>Ab<|A0 (Aq _ _) z z ⟨z,_,_,z,h1⟩
   refine An z ?_ ?_
   ·intro w6 hB6
    refine A6 z z z ?_
    rintro _ _ ⟨rfl,b2,o1,rfl,h1⟩ _
    refine Av<|⟨_,z,?_⟩
    exact Aj z z<|fd AO A2 z z z z<|Ab<|A0 (Aq _ _) z z ⟨z,_,_,z,h1.snd.fst⟩
   refine An z ?_ ?_
   ·intro w6 hB6
    refine A6 z z z ?_
    rintro _ _ ⟨rfl,b3,o2,rfl,h2⟩ _
    refine Av<|⟨_,z,?_⟩
    exact Aj z z<|Bf ty24 h2 (hC5.keep.then hB6) z z fun v1 h3=>Ab<|A0 (Aq _ _) z z ⟨z,h3⟩
   refine An z ?_ ?_
   ·intro w6 hB6
    refine A6 z z z ?_
    rintro v1 _ ⟨rfl,h3⟩ _
    refine Av<|⟨_,z,?_⟩
    exact Aj z z<|Bo Ap h3 z z<|Ab<|A0 (Aq _ _) z z ⟨z,z⟩
   exact Bd
  intro w7 hB7
  refine Au z z z ?_
  rintro _ _ ⟨rfl,rfl⟩
  refine Au z z z ?_
  rintro _ _ ⟨rfl,rfl⟩
  refine Au z z z ?_
  rintro _ _ ⟨rfl,rfl⟩
  refine Au z z z ?_
  rintro _ _ ⟨rfl,b2,o1,rfl,h1⟩
  refine Au z z z ?_
  rintro _ _ ⟨rfl,b3,o2,rfl,h2⟩
  refine Au z z z ?_
  rintro v1 _ ⟨rfl,h3⟩
  refine Au z z z ?_
  rintro _ _ ⟨rfl,rfl⟩
  refine Bn fun hn1 hb1=>have hC6:=hC5.grow hB7;tg 24 z z z z (CT z z)<|Aj z z<|Cp z z z<|Ab<|tq 25 z z z z<|dn<|?_
  obtain rfl:=Aa hr1
  exact Ay (l':=[(5,(ptr b1 0)),(33,(.bool (!decide ((List.length a3.2:Int)=(List.length x4.2.1:Int)))))]) ⟨z,z,Am⟩<|⟨(!decide ((List.length a3.2:Int)=(List.length x4.2.1:Int))),z,z,((((Ao hB3).then hB4).then hB5).then hB7).below,hC6⟩
 rintro _ w2 ⟨x1,rfl,rfl,hB2,hC2⟩
 try dsimp only at hF
 refine AN z (fun hc3=>?_) (fun hc3=>?_)
 ·replace hF:=AF hF hc3
  refine Ad<|Ag z z<|Ab<|AL<|A7<|?_
  obtain rfl:=Aa hF
  exact AE z z<|⟨_,z,Bh hC2 _⟩
 replace hF:=AG hF hc3
 refine AR<|Ax<|AC<|Ad<|Ag z z<|Ab<|be hF fun r2 hr4 hF=>Bv (fun l w=>.inl ()=r2∧l=[]∧Below w2.heap.size w2 w∧Ctx [] w0 w []) ?_ ?_
 ·refine Bb<|wS (l':=[(5,(ptr b1 0)),(7,(I 0))]) ⟨z,z,Am⟩<|BC (fun k l w=>∃x5:Int,l=[(5,(ptr b1 0)),(7,(I x5))]∧Below w2.heap.size w2 w∧Ctx [] w0 w [Ac b1 [(I a3.1),u3]]∧S.IsAccess_l1 a3 k x5=some r2) FUEL ⟨0,z,(Aq _ _),hC2,hr4⟩<|?_
  clear hr4
  rintro k1 _ w9 ⟨x5,rfl,hB8,hC7,hL1⟩
  cases k1 with
  | zero=>rw [S.IsAccess_l1] at hL1; cases hL1
  | succ k1 =>
   rw [S.IsAccess_l1] at hL1
   refine AC<|Ad<|Af z z<|fd AQ A2 z z z z<|At hC7 0 z z AT z z<|Bo Ap g3 z z<|B6 z z z<|Ab<|AN z (fun hc4=>?_) (fun hc4=>?_)
   ·replace hL1:=AF hL1 hc4
    refine AR<|Ax<|AC<|Bb<|Ad<|fd AQ A2 z z z z<|At hC7 0 z z AT z z<|Af z z<|be hL1 fun x6 hx2 hL1=>Bc Ap ty3 g3 hx2 z z z fun b4 o3 h4=>Bf ty3 h4 hC7.keep z z fun v2 h5=>?_
    obtain rfl:=BG h5
    refine be hL1 fun x7 hr5 hL1=>cb BI z z (c_S_l1In x6 0 9 x7 hr5) fun w10 hB9=>have hC8:=hC7.grow hB9;B2 z z<|Ab<|AN z (fun hc5=>?_) (fun hc5=>?_)
    ·replace hL1:=AF hL1 hc5
     refine Ad<|Ag z z<|Ab<|AL<|Bz<|A7<|A7<|Bz<|A7<|A7<|?_
     obtain rfl:=Aa hL1
     dsimp only at hF
     obtain rfl:=Aa hF
     exact AE z z<|⟨_,z,Bh hC8 _⟩
    replace hL1:=AG hL1 hc5
    exact AR<|Bi<|Ax<|Bt<|Af z z<|By z z z<|Ag z z<|Ab<|Ay (l':=[(5,(ptr b1 0)),(7,(I (w64 (x5+1))))]) ⟨z,z,Am⟩<|⟨k1,AS _,w64 (x5+1),z,((Ao hB8).then hB9).below,hC8,hL1⟩
   replace hL1:=AG hL1 hc4
   refine BD (AY (AY (B1 ?_)))
   obtain rfl:=Aa hL1
   have hC9:=hC7.h0
   exact Ay (l':=[]) Am<|⟨z,z,(Ao hB8).below,hC9⟩
 rintro l3 _ w11 hs3 ⟨rfl,rfl,hB10,hC10⟩
 try dsimp only at hF
 refine Bj hs3 ?_
 clear hs3
 refine Ad<|Ag z z<|Ab<|AL<|?_
 obtain rfl:=Aa hF
 exact AE z z<|⟨_,z,Bh hC10 _⟩
theorem c_S_l8Access {w0:World} (a1:Int) (a2:(List Int)) (u1:Value) (g1:RO [] w0 u1 a2) (rr:(Int × (List Int))) (hF:S.l8Access a1 a2=some rr) :
 Calls Tryz.prog 53 [(I a1),u1].toArray w0 fun e w'=>∃v,e=.returned v∧Res w0 rr v w':=by
 refine A4 Tryz.func53 z z ?_
 have hC0:=AD w0
 unfold S.l8Access at hF
 refine Ad<|AW hC0 zero45 z z fun b1 w1 hC1 hB1 hN1=>Ab<|Ad<|Af z z<|AK (vs:=[]) hC1 Ap ty3 z z z z (by simp) z z fun b2 w2 hC2 hB2=>?_
 have hC3:=hC2.row0 (α:=Int)
 have hC4:=hC3.front 1 z
 dsimp only [List.eraseIdx,List.cons_append,List.nil_append,List.append_nil] at hC4
 have hC5:Ctx [] w0 w2 (Ae (.slice (some ⟨b2,0,none⟩) 0 0) (([]:List Int):List Int)::[Ac b1 [(I 0),(.slice none 0 0)]]):=hC4.rowOwn (by simp [maxLen])
 refine Af z z<|be hF fun x1 hx1 hF=>B9 (α:=Int) hC5 0 z g1 hC5.keep Ap ty3 z hx1 z z z fun v1 w3 hC6=>?_
 try dsimp only [List.set] at hC6
 refine BB (vs:=[(0,(I a1)),(1,v1)]) z z z (built45_0_1 z (Ca (hC6.ro 0 z)))<|Al (cs':=[(I a1),v1]) (new:=[(I a1),v1]) hC6 1 z z (fac z<|fac (AP (hC6.ro 0 z))<|fa0) z Ba z z fun w4 hC7 hKp1=>?_
 try dsimp only [List.set] at hC7
 refine Ab (AL ?_)
 obtain rfl:=Aa hF
 refine BM z (rv_cell_agg (cs':=[(I a1),v1]) hC7 (i:=1) z z z B8 Ba z) ?_
 have hC8:=CS a1 v1 x1 hC7
 exact ⟨_,z,Cd hC8 0 z⟩
theorem c_S_OpenCursor {w0:World} (a1:(List Int)) (u1:Value) (g1:RO [] w0 u1 a1) (a2:(List (Int × (List Int) × Int × Int × Int))) (u2:Value) (g2:RO [] w0 u2 a2) (a3:((List (Int × (List Int))) × Int)) (u3:Value) (g3:RO [] w0 u3 a3.1) (a4:(Int × (List Int))) (u4:Value) (g4:RO [] w0 u4 a4.2) (rr:(((Int × (List Int)) × Int × Int) × Bool)) (hF:S.OpenCursor a1 a2 a3 a4=some rr) :
 Calls Tryz.prog 18 [u1,u2,(.agg #[u3,(I a3.2)]),(.agg #[(I a4.1),u4])].toArray w0 fun e w'=>∃v,e=.returned v∧Res2 w0 rr.1 rr.2 v w':=by
 refine A4 Tryz.func18 z z ?_
 have hC0:=AD w0
 unfold S.OpenCursor at hF
 refine Ad<|B0 (cs:=[u3,(I a3.2)]) hC0 z z z fun b1 w1 hC1 hB1 hN1=>B0 (cs:=[(I a4.1),u4]) hC1 z z z fun b2 w2 hC2 hB2 hN2=>AW hC2 zero49 z z fun b3 w3 hC3 hB3 hN3=>Ag z z<|Ab<|AC<|be hF fun r1 hr1 hF=>BP (fun l w=>∃x1:Bool,x1=r1∧l=[(6,(ptr b1 0)),(7,(ptr b2 0)),(8,(ptr b3 0)),(20,(.bool x1))]∧Below w3.heap.size w3 w∧Ctx [] w0 w [Ac b3 [(I 0),(.slice none 0 0),(I 0),(I 0)],Ac b2 [(I a4.1),u4],Ac b1 [u3,(I a3.2)]]) ?_ ?_
 ·refine Bt<|Af z z<|Ar [u3,(I a3.2)] hC3 2 z z z A9 Aw z z<|be hr1 fun x2 hr2 hr1=>cb CR z z (c_S_IsSource a1 u1 (g1.now hC3.keep) (a3.1,a3.2) u3 (g3.now hC3.keep) x2 hr2) fun w5 hB5=>have hC5:=hC3.grow hB5;B2 z z<|Af z z<|B3 (fun hc1=>?_) (fun hc1=>?_)
  ·replace hr1:=AF hr1 hc1
   refine gs z z z z<|gs z z z z<|gs z z z z<|gs z z z z<|gs z z z z<|AX z z z<|Ab<|?_
   obtain rfl:=Aa hr1
   exact Ay (l':=[(6,(ptr b1 0)),(7,(ptr b2 0)),(8,(ptr b3 0)),(20,(.bool true))]) ⟨z,z,z,z,Am⟩<|⟨true,z,z,(Ao hB5).below,hC5⟩
  replace hr1:=AG hr1 hc1
  refine Aj z z<|Af z z<|Aj z z<|Af z z<|Aj z z<|Ar [(I a4.1),u4] hC5 1 z z z B8 Ba z z<|be hr1 fun x3 hr3 hr1=>Aj z z<|cb Tryz.call52 z z (c_S_IsAccess a1 u1 (g1.now hC5.keep) a2 u2 (g2.now hC5.keep) (a4.1,a4.2) u4 (g4.now hC5.keep) x3 hr3) fun w6 hB6=>have hC6:=hC5.grow hB6;Aj z z<|B2 z z<|AH z z z<|Ab<|?_
  obtain rfl:=Aa hr1
  exact Ay (l':=[(6,(ptr b1 0)),(7,(ptr b2 0)),(8,(ptr b3 0)),(20,(.bool (!x3)))]) ⟨z,z,z,z,Am⟩<|⟨(!x3),z,z,((Ao hB5).then hB6).below,hC6⟩
 rintro _ w4 ⟨x1,rfl,rfl,hB4,hC4⟩
 try dsimp only at hF
 refine AN z (fun hc2=>?_) (fun hc2=>?_)
 ·replace hF:=AF hF hc2
  refine Ad<|BB (vs:=[]) z z z built49<|Al (cs':=[(I 0),(.slice none 0 0),(I 0),(I 0)]) (new:=[(I 0),(.slice none 0 0),(I 0),(I 0)]) hC4 0 z z (fac z<|fac z<|fac z<|fac z<|fa0) z A5 z z fun w7 hC7 hKp1=>?_
  try dsimp only [List.set] at hC7
  have hk1:=Ak ((((Ao hB1).then hB2).then hB3).then hB4) (Ai ((Ao hB1).then hB2).size hN3) hKp1
  have hk2:=Ak (((Ao hB2).then hB3).then hB4) (Ai (Ao hB2).size hN3) hKp1
  have hk3:=Ak ((Ao hB3).then hB4) hN3 hKp1
  refine Ag z z<|Ab<|AL<|A7<|?_
  obtain rfl:=Aa hF
  refine C4 z (rv_cell_agg (cs':=[(I 0),(.slice none 0 0),(I 0),(I 0)]) hC7 (i:=0) z z z Bg A5 z) (rv_tmp z) ?_
  have hC8:=hC7.triv (Ci (false))
  have hC10:=hC8.triv (nil_val (α:=Int))
  have hC9:=BW 0 (.slice none 0 0) ([]) 0 0 hC10
  exact ⟨_,z,res2_of hC9⟩
 replace hF:=AG hF hc2
 refine AR<|Ax<|AC<|W_drawn 10 z hmix fun w9 hB7=>have hC11:=hC4.grow hB7;tf 0 AQ Az z z z z z<|tf 2 AQ A2 z z z z z<|tf 5 A1 Az z z z z z<|be hF fun x4 hr4 hF=>wAS (l':=[(6,(ptr b1 0)),(7,(ptr b2 0)),(8,(ptr b3 0)),(20,(.bool x1)),(22,(ptr b2 0)),(24,(ptr b2 1)),(27,(ptr b1 1))]) ⟨z,z,z,z,z,z,z,Am⟩<|Bm [⟨1,[],fun vs=>AU (I a4.1),[]⟩,⟨3,[],fun vs=>AU u4,[]⟩,⟨4,[],fun vs=>Ct x4,[]⟩,⟨6,[],fun vs=>AU (I a3.2),[]⟩] [[],[],[1,3],[]] 3 z (by kernel_rfl) (by kernel_rfl) z ?_ ?_
 ·refine An z ?_ ?_
  ·intro w11 hB9
   refine Av<|⟨_,z,?_⟩
   exact At (hC11.grow hB9) 1 z z AA z z<|Ab<|A0 (Aq _ _) z z ⟨z,z⟩
  refine An z ?_ ?_
  ·intro w11 hB9
   refine Av<|⟨_,z,?_⟩
   exact At (hC11.grow hB9) 1 z z AT z z<|Ab<|A0 (Aq _ _) z z ⟨z,z⟩
  refine An z ?_ ?_
  ·intro w11 hB9
   refine A6 z z z ?_
   rintro _ _ ⟨rfl,rfl⟩ _
   refine A6 z z z ?_
   rintro _ _ ⟨rfl,rfl⟩ _
   refine Av<|⟨_,z,?_⟩
   refine A8 Tryz.call53 z z (c_S_l8Access a4.1 a4.2 u4 (g4.now (hC11.keep.then hB9)) x4 hr4) ?_
   rintro v1 w10 ⟨hB8,F1,hv3,hn1,hb1⟩
   exact Ab<|Cn hB8 z z hv3 hn1 hb1 (Val.inh hv3)
  refine An z ?_ ?_
  ·intro w11 hB9
   refine Av<|⟨_,z,?_⟩
   exact At (hC11.grow hB9) 2 z z AA z z<|Ab<|A0 (Aq _ _) z z ⟨z,z⟩
  exact Bd
 intro w12 hB10
 refine Au z z z ?_
 rintro _ _ ⟨rfl,rfl⟩
 refine Au z z z ?_
 rintro _ _ ⟨rfl,rfl⟩
 refine Au z z z fun v1 F1 hv3=>Au z z z<|?_
 rintro _ _ ⟨rfl,rfl⟩
 refine Bn ?_
 intro hn2 hb2
 have hC12:=hC11.pushL hB10 (Bs:=[Ae v1 (x4:(Int × (List Int)))]) (Fs:=[F1]) ⟨F1,_,z,hv3,z⟩ (by simpa using hn2) (fun b h=>(hb2 b (by simpa using h)).1)
 obtain ⟨v3,rfl,hC13⟩:=st45_own hC12
 refine tk 7 z z (Cm (vs:=[(0,(.agg #[(I x4.1),v3])),(2,(I a3.2))]) z z (built49_0_2 z z))<|BB (vs:=[(0,(.agg #[(I x4.1),v3])),(2,(I a3.2))]) z z z (built49_0_2 z z)<|Ab<|oe 8 z<|Al (cs':=[(I x4.1),v3,(I 0),(I a3.2)]) (new:=[(I x4.1),v3,(I 0),(I a3.2)]) hC13 1 z z (fac z<|fac (AP (hC13.ro 0 z))<|fac z<|fac z<|fa0) z A5 z z fun w13 hC14 hKp2=>?_
 try dsimp only [List.set] at hC14
 have hk4:=Ak ((((((Ao hB1).then hB2).then hB3).then hB4).then hB7).then hB10) (Ai ((Ao hB1).then hB2).size hN3) hKp2
 have hk5:=Ak (((((Ao hB2).then hB3).then hB4).then hB7).then hB10) (Ai (Ao hB2).size hN3) hKp2
 have hk6:=Ak ((((Ao hB3).then hB4).then hB7).then hB10) hN3 hKp2
 refine Ab<|ta 9 z z z<|dn<|Ax<|AL<|?_
 obtain rfl:=Aa hF
 refine C4 z (rv_cell_agg (cs':=[(I x4.1),v3,(I 0),(I a3.2)]) hC14 (i:=1) z z z Bg A5 z) (rv_tmp z) ?_
 have hC15:=hC14.triv (Ci (true))
 have hC17:=hC15.f1
 have hC16:=BW x4.1 v3 x4.2 0 a3.2 hC17
 exact ⟨_,z,res2_of hC16⟩
theorem c_S_DrawNextPage {w0:World} (a1:(List UInt8)) (u1:Value) (g1:RO [] w0 u1 a1) (rr:((List Int) × (List (Int × (List Int) × Int × Int × Int)) × ((List (Int × (List Int))) × Int) × ((Int × (List Int)) × Int × Int) × Int)) (hF:S.DrawNextPage a1=some rr) :
 Calls Tryz.prog 19 [u1].toArray w0 fun e w'=>∃v,e=.returned v∧∃q0:Value,∃q1:Value,∃q2:Value,∃q3:Value,v=(.tuple #[q0,q1,q2,q3,(I rr.2.2.2.2)])∧Ctx [] w0 w' [Ae q0 (rr.1:(List Int)),Ae q1 (rr.2.1:(List (Int × (List Int) × Int × Int × Int))),Ae q2 (rr.2.2.1:((List (Int × (List Int))) × Int)),Ae q3 (rr.2.2.2.1:((Int × (List Int)) × Int × Int))]:=by
 refine A4 Tryz.func19 z z ?_
 have hC0:=AD w0
 unfold S.DrawNextPage at hF
 refine Ad<|Ag z z<|Ag z z<|AW hC0 zero27 z z fun b1 w1 hC1 hB1 hN1=>AW hC1 zero49 z z fun b2 w2 hC2 hB2 hN2=>Ag z z<|Ab<|Ad<|Af z z<|be hF fun x1 hr1 hF=>A8 CK z z (c_S_l1New a1 u1 (g1.now hC2.keep) x1 hr1)<|?_
 rintro _ w3 ⟨b3,rfl,hq1⟩
 have hC3:Ctx [] w0 w3 [Ac b3 [u1,(I x1.2.1),(I x1.2.2)],Ac b2 [(I 0),(.slice none 0 0),(I 0),(I 0)],Ac b1 [(.slice none 0 0),(I 0)]]:=hC2.push2 hq1
 refine Ag z z<|Ab<|Ad<|Af z z<|be hF fun x2 hr2 hF=>?_
 obtain ⟨Fs2,hH2,hn2,hF2,hO2,hb2⟩:=AB (As:=[Ac b2 [(I 0),(.slice none 0 0),(I 0),(I 0)],Ac b1 [(.slice none 0 0),(I 0)]]) [Ac b3 [u1,(I x1.2.1),(I x1.2.2)]] hC3
 refine A8 CL z z (c_S_l25Draw b3 (a1,x1.2.1,x1.2.2) u1 (AJ g1 hC3.keep hF2) hH2 hn2 x2 hr2) ?_
 rintro _ w4 ⟨v1,v2,v3,rfl,hq2⟩
 have hC4:Ctx [] w0 w4 [Ae v1 (x2.1:(List Int)),Ae v2 (x2.2.1:(List (Int × (List Int) × Int × Int × Int))),Ae v3 (x2.2.2.1:((List (Int × (List Int))) × Int)),Ac b3 [u1,(I x2.2.2.2.2.1),(I x2.2.2.2.2.2)],Ac b2 [(I 0),(.slice none 0 0),(I 0),(I 0)],Ac b1 [(.slice none 0 0),(I 0)]]:=hb2 _ _ hq2
 have hC5:=hC4.f2
 obtain ⟨v4,rfl,hC6⟩:=st27_own hC5
 refine Af z z<|AM z z z<|AM z z z<|AM z z z<|AW hC6 zero27 z z fun b4 w5 hC7 hB3 hN3=>Ag z z<|Ag z z<|Al (cs':=[v4,(I x2.2.2.1.2)]) (new:=[v4,(I x2.2.2.1.2)]) hC7 0 z z (fac (AP (hC7.ro 1 z))<|fac z<|fa0) z Aw z z fun w6 hC8 hKp1=>?_
 try dsimp only [List.set] at hC8
 have hk1:=Ak (Ao hB3) hN3 hKp1
 refine Ab<|be hF fun r1 hr3 hF=>BP (fun l w=>∃x3:Int,∃x4:Int,∃b5:Nat,∃x5:Int,∃v5:Value,∃x6:(List Int),∃x7:Int,∃x8:Int,(x3,x4,x5,x6,x7,x8)=r1∧l=[(4,(ptr b1 0)),(5,(ptr b2 0)),(7,(ptr b3 0)),(8,v1),(9,v2),(10,(ptr b4 0)),(11,(ptr b5 0))]∧Ctx [] w0 w [Ac b5 [(I x5),v5,(I x7),(I x8)],Ae v5 (x6:(List Int)),Ac b4 [v4,(I x2.2.2.1.2)],Ae v4 (x2.2.2.1.1:(List (Int × (List Int)))),Ae v1 (x2.1:(List Int)),Ae v2 (x2.2.1:(List (Int × (List Int) × Int × Int × Int))),Ac b3 [u1,(I x3),(I x4)],Ac b2 [(I 0),(.slice none 0 0),(I 0),(I 0)],Ac b1 [(.slice none 0 0),(I 0)]]) ?_ ?_
 ·refine W_drawn 13 z hmix fun w9 hB5=>have hC10:=hC8.grow hB5;tm 0 z z z<|tm 1 z z z<|tm 3 z z z<|tm 4 z z z<|WA_all3 (i:=2) (j:=5) (m:=10) (by kernel_rfl) z z z ?_ ?_ ?_
  ·refine Ar [v4,(I x2.2.2.1.2)] hC10 0 z z z A9 Aw z z<|Ab<|BY (i:=5) (j:=10) (by kernel_rfl) z z ?_ ?_
   ·refine be hr3 fun x9 hr4 hr3=>have hC11:=hC10.f4;?_
    obtain ⟨Fs3,hH3,hn3,hF3,hO3,hb3⟩:=AB (As:=[Ac b4 [v4,(I x2.2.2.1.2)],Ae v4 (x2.2.2.1.1:(List (Int × (List Int)))),Ae v1 (x2.1:(List Int)),Ae v2 (x2.2.1:(List (Int × (List Int) × Int × Int × Int))),Ac b2 [(I 0),(.slice none 0 0),(I 0),(I 0)],Ac b1 [(.slice none 0 0),(I 0)]]) [Ac b3 [u1,(I x2.2.2.2.2.1),(I x2.2.2.2.2.2)]] hC11
    refine A8 C5 z z (c_S_l5Access b3 (a1,x2.2.2.2.2.1,x2.2.2.2.2.2) u1 (AJ g1 hC11.keep hF3) x2.2.1 v2 (hO3 3 _ _ _ z) hH3 hn3 x9 hr4) ?_
    rintro v6 w10 ⟨_,rfl,hq3⟩
    have hC12:Ctx [] w0 w10 [Ae v6 (x9.1:(Int × (List Int))),Ac b3 [u1,(I x9.2.2.1),(I x9.2.2.2)],Ac b4 [v4,(I x2.2.2.1.2)],Ae v4 (x2.2.2.1.1:(List (Int × (List Int)))),Ae v1 (x2.1:(List Int)),Ae v2 (x2.2.1:(List (Int × (List Int) × Int × Int × Int))),Ac b2 [(I 0),(.slice none 0 0),(I 0),(I 0)],Ac b1 [(.slice none 0 0),(I 0)]]:=hb3 _ _ hq3
    obtain ⟨v7,rfl,hC13⟩:=st45_own hC12
    refine Ab<|be hr3 fun x10 hr5 hr3=>wAS (l':=[(0,u1),(2,(.slice none 0 0)),(3,(.slice none 0 0)),(4,(ptr b1 0)),(5,(ptr b2 0)),(6,(I 0)),(7,(ptr b3 0)),(8,v1),(9,v2),(10,(ptr b4 0)),(13,u1),(14,(ptr b3 0)),(15,(.tuple #[v1,v2,(.agg #[v4,(I x2.2.2.1.2)])])),(16,(ptr b3 0)),(17,(.tuple #[v1,v2,(.agg #[v4,(I x2.2.2.1.2)])])),(18,v1),(19,v2),(20,(.agg #[v4,(I x2.2.2.1.2)])),(22,v1),(23,v2),(24,(.agg #[v4,(I x2.2.2.1.2)])),(25,(ptr b3 0)),(26,v2),(27,(.agg #[(I x9.1.1),v7]))]) ⟨z,z,z,z,z,z,z,z,z,z,z,z,z,z,z,z,z,z,z,z,z,z,z,z,Am⟩<|WA_postsO [⟨6,[],fun vs=>PW.own2 (x10.1:((Int × (List Int)) × Int × Int)) (x10.2:Bool),[]⟩,⟨7,[28],fun vs=>AU (vs.getD 0 undef),[]⟩,⟨8,[21],fun vs=>CW (vs.getD 0 undef) 0,[]⟩,⟨9,[21],fun vs=>CW (vs.getD 0 undef) 1,[]⟩,⟨10,[],fun vs=>PW.box [(I 0),(.slice none 0 0),(I 0),(I 0)],[]⟩] [[],[6],[6,7],[6,7],[]] [9] 2 z (by kernel_rfl) (by kernel_rfl) ?_ ⟨?_,?_,Am⟩
    ·refine An z ?_ ?_
     ·intro w13 hB8
      refine Av<|⟨_,z,?_⟩
      refine A8 C6 z z (c_S_OpenCursor x2.1 v1 ((hC13.grow hB8).ro 4 z) x2.2.1 v2 ((hC13.grow hB8).ro 5 z) (x2.2.2.1.1,x2.2.2.1.2) v4 ((hC13.grow hB8).ro 3 z) x9.1 v7 ((hC13.grow hB8).ro 0 z) x10 hr5) ?_
      rintro _ w11 ⟨hB6,v8,v9,F1,F2,rfl,hv1,hv2,hn4,hb4⟩
      exact Ab<|Cn (F:=F1 ++ F2) hB6 z z ⟨_,_,_,_,z,z,hv1,hv2⟩ (by simpa using hn4) (fun b h=>hb4 b (by simpa using h)) (fun b h=>by simp only [List.mem_append] at h; rcases h with h | h <;> first | exact Val.inh hv1 b h | exact Val.inh hv2 b h)
     refine An z ?_ ?_
     ·intro w13 hB8
      refine A6 z z z ?_
      rintro _ _ ⟨v8,v9,F1,F2,rfl,rfl,hv1,hv2⟩ _
      obtain ⟨rfl,rfl⟩:=val_bool hv2
      obtain ⟨v10,rfl,h1⟩:=CY (Cr hv1)
      refine Av<|⟨_,z,?_⟩
      exact Af z z<|Ab<|A0 (Aq _ _) z z ⟨z,z⟩
     refine An z ?_ ?_
     ·intro w13 hB8
      refine A6 z z z ?_
      rintro _ _ ⟨v8,v9,F1,F2,rfl,rfl,hv1,hv2⟩ _
      obtain ⟨rfl,rfl⟩:=val_bool hv2
      obtain ⟨v10,rfl,h1⟩:=CY (Cr hv1)
      refine A6 z z z ?_
      rintro _ _ ⟨rfl,rfl⟩ _
      refine Av<|⟨_,z,?_⟩
      exact AM z z z<|Ab<|A0 (Aq _ _) z z ⟨⟨_,z,z⟩,z⟩
     refine An z ?_ ?_
     ·intro w13 hB8
      refine A6 z z z ?_
      rintro _ _ ⟨v8,v9,F1,F2,rfl,rfl,hv1,hv2⟩ _
      obtain ⟨rfl,rfl⟩:=val_bool hv2
      obtain ⟨v10,rfl,h1⟩:=CY (Cr hv1)
      refine A6 z z z ?_
      rintro _ _ ⟨rfl,rfl⟩ _
      refine Av<|⟨_,z,?_⟩
      exact AM z z z<|Ab<|A0 (Aq _ _) z z ⟨⟨_,z,z⟩,z⟩
     refine An z ?_ ?_
     ·intro w13 hB8
      refine Av<|⟨_,z,?_⟩
      exact CV (AD _) zero49 z z fun b6 w12 hC14 hB7=>Ab<|C2 hC14 z z (fun F h=>⟨b6,z,h⟩)
     exact Bd
    ·intro g' hg'
     obtain rfl:g'=2:=hg'
     intro w14 hB9
     refine Au z z z ?_
     rintro _ _ ⟨v8,v9,F1,F2,rfl,rfl,hv1,hv2⟩
     obtain ⟨rfl,rfl⟩:=val_bool hv2
     refine Au z z z ?_
     rintro _ _ ⟨rfl,rfl⟩
     refine Au z z z ?_
     rintro _ _ ⟨⟨_,hx1,hx2⟩,rfl⟩
     obtain rfl:=Value.tuple.inj hx1
     obtain rfl:=Aa (show (some v8:Option Value)=some _ from hx2)
     refine Au z z z ?_
     rintro _ _ ⟨⟨_,hx3,hx4⟩,rfl⟩
     obtain rfl:=Value.tuple.inj hx3
     obtain rfl:=Aa (show (some (.bool x10.2):Option Value)=some _ from hx4)
     refine Au z z z ?_
     rintro _ F3 ⟨b6,rfl,hv3⟩
     refine Bn ?_
     intro hn5 hb5
     have hC15:=hC13.pushL hB9 (Bs:=[Ac b6 [(I 0),(.slice none 0 0),(I 0),(I 0)],Ae v8 (x10.1:((Int × (List Int)) × Int × Int))]) (Fs:=[F3,F1]) ⟨F3,_,z,hv3,F1,_,z,hv1,z⟩ (by simpa using hn5) (fun b h=>(hb5 b (by simpa using h)).1)
     have hC16:=hC15.f1
     obtain ⟨v11,rfl,hC17⟩:=st49_own hC16
     refine oe 11 z<|Al (cs':=[(I x10.1.1.1),v11,(I x10.1.2.1),(I x10.1.2.2)]) (new:=[(I x10.1.1.1),v11,(I x10.1.2.1),(I x10.1.2.2)]) hC17 1 z z (fac z<|fac (AP (hC17.ro 0 z))<|fac z<|fac z<|fa0) z A5 z z fun w15 hC18 hKp2=>?_
     try dsimp only [List.set] at hC18
     refine Ab<|ta 12 z z z<|dn<|?_
     obtain rfl:=Aa hr3
     have hC19:=hC18.f9
     have hC20:=hC19.f9
     have hC21:=hC20.f5
     have hC22:=hC21.f9
     have hC23:=hC22.f9
     have hC24:=hC23.f9
     have hC25:=hC24.f9
     have hC26:=hC25.f7
     have hC27:=hC26.f8
     have hC28:=hC27.h9
     exact Ay (l':=[(4,(ptr b1 0)),(5,(ptr b2 0)),(7,(ptr b3 0)),(8,v1),(9,v2),(10,(ptr b4 0)),(11,(ptr b6 0))]) ⟨z,z,z,z,z,z,z,Am⟩<|⟨x9.2.2.1,x9.2.2.2,b6,x10.1.1.1,v11,x10.1.1.2,x10.1.2.1,x10.1.2.2,z,z,hC28⟩
    intro g' hg'
    obtain rfl:g'=3:=hg'
    intro w14 hB9
    refine Au z z z ?_
    rintro _ _ ⟨v8,v9,F1,F2,rfl,rfl,hv1,hv2⟩
    obtain ⟨rfl,rfl⟩:=val_bool hv2
    refine Au z z z ?_
    rintro _ _ ⟨rfl,rfl⟩
    refine Au z z z ?_
    rintro _ _ ⟨⟨_,hx1,hx2⟩,rfl⟩
    obtain rfl:=Value.tuple.inj hx1
    obtain rfl:=Aa (show (some v8:Option Value)=some _ from hx2)
    refine Au z z z ?_
    rintro _ F3 ⟨b6,rfl,hv3⟩
    refine Bn ?_
    intro hn5 hb5
    have hC15:=hC13.pushL hB9 (Bs:=[Ac b6 [(I 0),(.slice none 0 0),(I 0),(I 0)],Ae v8 (x10.1:((Int × (List Int)) × Int × Int))]) (Fs:=[F3,F1]) ⟨F3,_,z,hv3,F1,_,z,hv1,z⟩ (by simpa using hn5) (fun b h=>(hb5 b (by simpa using h)).1)
    have hC16:=hC15.f1
    obtain ⟨v11,rfl,hC17⟩:=st49_own hC16
    refine tk 9 z z (BX z z)<|AM z z z<|Ab<|oe 11 z<|Al (cs':=[(I x10.1.1.1),v11,(I x10.1.2.1),(I x10.1.2.2)]) (new:=[(I x10.1.1.1),v11,(I x10.1.2.1),(I x10.1.2.2)]) hC17 1 z z (fac z<|fac (AP (hC17.ro 0 z))<|fac z<|fac z<|fa0) z A5 z z fun w15 hC18 hKp2=>?_
    try dsimp only [List.set] at hC18
    refine Ab<|ta 12 z z z<|dn<|?_
    obtain rfl:=Aa hr3
    have hC19:=hC18.f9
    have hC20:=hC19.f9
    have hC21:=hC20.f5
    have hC22:=hC21.f9
    have hC23:=hC22.f9
    have hC24:=hC23.f9
    have hC25:=hC24.f9
    have hC26:=hC25.f7
    have hC27:=hC26.f8
    have hC28:=hC27.h9
    exact Ay (l':=[(4,(ptr b1 0)),(5,(ptr b2 0)),(7,(ptr b3 0)),(8,v1),(9,v2),(10,(ptr b4 0)),(11,(ptr b6 0))]) ⟨z,z,z,z,z,z,z,Am⟩<|⟨x9.2.2.1,x9.2.2.2,b6,x10.1.1.1,v11,x10.1.1.2,x10.1.2.1,x10.1.2.2,z,z,hC28⟩
   refine AW hC10 zero49 z z fun b6 w10 hC11 hB6 hN4=>Ab<|be hr3 fun x9 hr4 hr3=>oe 5 z<|have hC12:=hC11.f5;?_
   obtain ⟨Fs3,hH3,hn3,hF3,hO3,hb3⟩:=AB (As:=[Ac b6 [(I 0),(.slice none 0 0),(I 0),(I 0)],Ac b4 [v4,(I x2.2.2.1.2)],Ae v4 (x2.2.2.1.1:(List (Int × (List Int)))),Ae v1 (x2.1:(List Int)),Ae v2 (x2.2.1:(List (Int × (List Int) × Int × Int × Int))),Ac b2 [(I 0),(.slice none 0 0),(I 0),(I 0)],Ac b1 [(.slice none 0 0),(I 0)]]) [Ac b3 [u1,(I x2.2.2.2.2.1),(I x2.2.2.2.2.2)]] hC12
   refine A8 C5 z z (c_S_l5Access b3 (a1,x2.2.2.2.2.1,x2.2.2.2.2.2) u1 (AJ g1 hC12.keep hF3) x2.2.1 v2 (hO3 4 _ _ _ z) hH3 hn3 x9 hr4) ?_
   rintro v6 w11 ⟨_,rfl,hq3⟩
   have hC13:Ctx [] w0 w11 [Ae v6 (x9.1:(Int × (List Int))),Ac b3 [u1,(I x9.2.2.1),(I x9.2.2.2)],Ac b6 [(I 0),(.slice none 0 0),(I 0),(I 0)],Ac b4 [v4,(I x2.2.2.1.2)],Ae v4 (x2.2.2.1.1:(List (Int × (List Int)))),Ae v1 (x2.1:(List Int)),Ae v2 (x2.2.1:(List (Int × (List Int) × Int × Int × Int))),Ac b2 [(I 0),(.slice none 0 0),(I 0),(I 0)],Ac b1 [(.slice none 0 0),(I 0)]]:=hb3 _ _ hq3
   obtain ⟨v7,rfl,hC14⟩:=st45_own hC13
   refine Ab<|be hr3 fun x10 hr5 hr3=>oe 6 z<|A8 C6 z z (c_S_OpenCursor x2.1 v1 ((hC14.ro 5 z).now (Be _ _)) x2.2.1 v2 ((hC14.ro 6 z).now (Be _ _)) (x2.2.2.1.1,x2.2.2.1.2) v4 ((hC14.ro 4 z).now (Be _ _)) x9.1 v7 ((hC14.ro 0 z).now (Be _ _)) x10 hr5)<|?_
   rintro _ w12 ⟨hB7,v8,v9,F1,F2,rfl,hv1,hv2,hn4,hb4⟩
   obtain ⟨rfl,rfl⟩:=val_bool hv2
   have hC15:=hC14.pushL hB7 (Bs:=[Ae v8 x10.1]) (Fs:=[F1]) ⟨F1,_,z,hv1,z⟩ (by simpa using hn4) (fun b h=>hb4 b (by simpa using h))
   obtain ⟨v10,rfl,hC16⟩:=st49_own hC15
   refine Ab<|tm 7 z z z<|tk 8 z z (BX z z)<|AM z z z<|Ab<|tk 9 z z (BX z z)<|AM z z z<|Ab<|oe 11 z<|Al (cs':=[(I x10.1.1.1),v10,(I x10.1.2.1),(I x10.1.2.2)]) (new:=[(I x10.1.1.1),v10,(I x10.1.2.1),(I x10.1.2.2)]) hC16 3 z z (fac z<|fac (AP (hC16.ro 0 z))<|fac z<|fac z<|fa0) z A5 z z fun w13 hC17 hKp2=>?_
   try dsimp only [List.set] at hC17
   refine Ab<|ta 12 z z z<|dn<|?_
   obtain rfl:=Aa hr3
   have hC18:=hC17.f9
   have hC19:=hC18.f9
   have hC20:=hC19.f4
   have hC21:=hC20.f9
   have hC22:=hC21.f9
   have hC23:=hC22.f9
   have hC24:=hC23.f9
   have hC25:=hC24.f7
   have hC26:=hC25.f9
   have hC27:=hC26.h9
   exact Ay (l':=[(4,(ptr b1 0)),(5,(ptr b2 0)),(7,(ptr b3 0)),(8,v1),(9,v2),(10,(ptr b4 0)),(11,(ptr b6 0))]) ⟨z,z,z,z,z,z,z,Am⟩<|⟨x9.2.2.1,x9.2.2.2,b6,x10.1.1.1,v10,x10.1.1.2,x10.1.2.1,x10.1.2.2,z,z,hC27⟩
  ·refine be hr3 fun x9 hr4 hr3=>have hC11:=hC10.f4;?_
   obtain ⟨Fs3,hH3,hn3,hF3,hO3,hb3⟩:=AB (As:=[Ac b4 [v4,(I x2.2.2.1.2)],Ae v4 (x2.2.2.1.1:(List (Int × (List Int)))),Ae v1 (x2.1:(List Int)),Ae v2 (x2.2.1:(List (Int × (List Int) × Int × Int × Int))),Ac b2 [(I 0),(.slice none 0 0),(I 0),(I 0)],Ac b1 [(.slice none 0 0),(I 0)]]) [Ac b3 [u1,(I x2.2.2.2.2.1),(I x2.2.2.2.2.2)]] hC11
   refine A8 C5 z z (c_S_l5Access b3 (a1,x2.2.2.2.2.1,x2.2.2.2.2.2) u1 (AJ g1 hC11.keep hF3) x2.2.1 v2 (hO3 3 _ _ _ z) hH3 hn3 x9 hr4) ?_
   rintro v6 w10 ⟨_,rfl,hq3⟩
   have hC12:Ctx [] w0 w10 [Ae v6 (x9.1:(Int × (List Int))),Ac b3 [u1,(I x9.2.2.1),(I x9.2.2.2)],Ac b4 [v4,(I x2.2.2.1.2)],Ae v4 (x2.2.2.1.1:(List (Int × (List Int)))),Ae v1 (x2.1:(List Int)),Ae v2 (x2.2.1:(List (Int × (List Int) × Int × Int × Int))),Ac b2 [(I 0),(.slice none 0 0),(I 0),(I 0)],Ac b1 [(.slice none 0 0),(I 0)]]:=hb3 _ _ hq3
   obtain ⟨v7,rfl,hC13⟩:=st45_own hC12
   refine Ab<|be hr3 fun x10 hr5 hr3=>wAS (l':=[(0,u1),(2,(.slice none 0 0)),(3,(.slice none 0 0)),(4,(ptr b1 0)),(5,(ptr b2 0)),(6,(I 0)),(7,(ptr b3 0)),(8,v1),(9,v2),(10,(ptr b4 0)),(13,u1),(14,(ptr b3 0)),(15,(.tuple #[v1,v2,(.agg #[v4,(I x2.2.2.1.2)])])),(16,(ptr b3 0)),(17,(.tuple #[v1,v2,(.agg #[v4,(I x2.2.2.1.2)])])),(18,v1),(19,v2),(20,(.agg #[v4,(I x2.2.2.1.2)])),(22,v1),(23,v2),(25,(ptr b3 0)),(26,v2),(27,(.agg #[(I x9.1.1),v7]))]) ⟨z,z,z,z,z,z,z,z,z,z,z,z,z,z,z,z,z,z,z,z,z,z,z,Am⟩<|WA_postsO [⟨2,[],fun vs=>AU (.agg #[v4,(I x2.2.2.1.2)]),[]⟩,⟨6,[],fun vs=>PW.own2 (x10.1:((Int × (List Int)) × Int × Int)) (x10.2:Bool),[]⟩,⟨7,[28],fun vs=>AU (vs.getD 0 undef),[]⟩,⟨8,[21],fun vs=>CW (vs.getD 0 undef) 0,[]⟩,⟨9,[21],fun vs=>CW (vs.getD 0 undef) 1,[]⟩,⟨10,[],fun vs=>PW.box [(I 0),(.slice none 0 0),(I 0),(I 0)],[]⟩] [[],[2],[6],[6,7],[6,7],[]] [9] 2 z (by kernel_rfl) (by kernel_rfl) ?_ ⟨?_,?_,Am⟩
   ·refine An z ?_ ?_
    ·intro w13 hB8
     refine Av<|⟨_,z,?_⟩
     exact Ar [v4,(I x2.2.2.1.2)] (hC13.grow hB8) 2 z z z A9 Aw z z<|Ab<|A0 (Aq _ _) z z ⟨z,z⟩
    refine An z ?_ ?_
    ·intro w13 hB8
     refine A6 z z z ?_
     rintro _ _ ⟨rfl,rfl⟩ _
     refine Av<|⟨_,z,?_⟩
     refine A8 C6 z z (c_S_OpenCursor x2.1 v1 ((hC13.grow hB8).ro 4 z) x2.2.1 v2 ((hC13.grow hB8).ro 5 z) (x2.2.2.1.1,x2.2.2.1.2) v4 ((hC13.grow hB8).ro 3 z) x9.1 v7 ((hC13.grow hB8).ro 0 z) x10 hr5) ?_
     rintro _ w11 ⟨hB6,v8,v9,F1,F2,rfl,hv1,hv2,hn4,hb4⟩
     exact Ab<|Cn (F:=F1 ++ F2) hB6 z z ⟨_,_,_,_,z,z,hv1,hv2⟩ (by simpa using hn4) (fun b h=>hb4 b (by simpa using h)) (fun b h=>by simp only [List.mem_append] at h; rcases h with h | h <;> first | exact Val.inh hv1 b h | exact Val.inh hv2 b h)
    refine An z ?_ ?_
    ·intro w13 hB8
     refine A6 z z z ?_
     rintro _ _ ⟨v8,v9,F1,F2,rfl,rfl,hv1,hv2⟩ _
     obtain ⟨rfl,rfl⟩:=val_bool hv2
     obtain ⟨v10,rfl,h1⟩:=CY (Cr hv1)
     refine Av<|⟨_,z,?_⟩
     exact Af z z<|Ab<|A0 (Aq _ _) z z ⟨z,z⟩
    refine An z ?_ ?_
    ·intro w13 hB8
     refine A6 z z z ?_
     rintro _ _ ⟨v8,v9,F1,F2,rfl,rfl,hv1,hv2⟩ _
     obtain ⟨rfl,rfl⟩:=val_bool hv2
     obtain ⟨v10,rfl,h1⟩:=CY (Cr hv1)
     refine A6 z z z ?_
     rintro _ _ ⟨rfl,rfl⟩ _
     refine Av<|⟨_,z,?_⟩
     exact AM z z z<|Ab<|A0 (Aq _ _) z z ⟨⟨_,z,z⟩,z⟩
    refine An z ?_ ?_
    ·intro w13 hB8
     refine A6 z z z ?_
     rintro _ _ ⟨v8,v9,F1,F2,rfl,rfl,hv1,hv2⟩ _
     obtain ⟨rfl,rfl⟩:=val_bool hv2
     obtain ⟨v10,rfl,h1⟩:=CY (Cr hv1)
     refine A6 z z z ?_
     rintro _ _ ⟨rfl,rfl⟩ _
     refine Av<|⟨_,z,?_⟩
     exact AM z z z<|Ab<|A0 (Aq _ _) z z ⟨⟨_,z,z⟩,z⟩
    refine An z ?_ ?_
    ·intro w13 hB8
     refine Av<|⟨_,z,?_⟩
     exact CV (AD _) zero49 z z fun b6 w12 hC14 hB7=>Ab<|C2 hC14 z z (fun F h=>⟨b6,z,h⟩)
    exact Bd
   ·intro g' hg'
    obtain rfl:g'=2:=hg'
    intro w14 hB9
    refine Au z z z ?_
    rintro _ _ ⟨rfl,rfl⟩
    refine Au z z z ?_
    rintro _ _ ⟨v8,v9,F1,F2,rfl,rfl,hv1,hv2⟩
    obtain ⟨rfl,rfl⟩:=val_bool hv2
    refine Au z z z ?_
    rintro _ _ ⟨rfl,rfl⟩
    refine Au z z z ?_
    rintro _ _ ⟨⟨_,hx1,hx2⟩,rfl⟩
    obtain rfl:=Value.tuple.inj hx1
    obtain rfl:=Aa (show (some v8:Option Value)=some _ from hx2)
    refine Au z z z ?_
    rintro _ _ ⟨⟨_,hx3,hx4⟩,rfl⟩
    obtain rfl:=Value.tuple.inj hx3
    obtain rfl:=Aa (show (some (.bool x10.2):Option Value)=some _ from hx4)
    refine Au z z z ?_
    rintro _ F3 ⟨b6,rfl,hv3⟩
    refine Bn ?_
    intro hn5 hb5
    have hC15:=hC13.pushL hB9 (Bs:=[Ac b6 [(I 0),(.slice none 0 0),(I 0),(I 0)],Ae v8 (x10.1:((Int × (List Int)) × Int × Int))]) (Fs:=[F3,F1]) ⟨F3,_,z,hv3,F1,_,z,hv1,z⟩ (by simpa using hn5) (fun b h=>(hb5 b (by simpa using h)).1)
    have hC16:=hC15.f1
    obtain ⟨v11,rfl,hC17⟩:=st49_own hC16
    refine oe 11 z<|Al (cs':=[(I x10.1.1.1),v11,(I x10.1.2.1),(I x10.1.2.2)]) (new:=[(I x10.1.1.1),v11,(I x10.1.2.1),(I x10.1.2.2)]) hC17 1 z z (fac z<|fac (AP (hC17.ro 0 z))<|fac z<|fac z<|fa0) z A5 z z fun w15 hC18 hKp2=>?_
    try dsimp only [List.set] at hC18
    refine Ab<|ta 12 z z z<|dn<|?_
    obtain rfl:=Aa hr3
    have hC19:=hC18.f9
    have hC20:=hC19.f9
    have hC21:=hC20.f5
    have hC22:=hC21.f9
    have hC23:=hC22.f9
    have hC24:=hC23.f9
    have hC25:=hC24.f9
    have hC26:=hC25.f7
    have hC27:=hC26.f8
    have hC28:=hC27.h9
    exact Ay (l':=[(4,(ptr b1 0)),(5,(ptr b2 0)),(7,(ptr b3 0)),(8,v1),(9,v2),(10,(ptr b4 0)),(11,(ptr b6 0))]) ⟨z,z,z,z,z,z,z,Am⟩<|⟨x9.2.2.1,x9.2.2.2,b6,x10.1.1.1,v11,x10.1.1.2,x10.1.2.1,x10.1.2.2,z,z,hC28⟩
   intro g' hg'
   obtain rfl:g'=3:=hg'
   intro w14 hB9
   refine Au z z z ?_
   rintro _ _ ⟨rfl,rfl⟩
   refine Au z z z ?_
   rintro _ _ ⟨v8,v9,F1,F2,rfl,rfl,hv1,hv2⟩
   obtain ⟨rfl,rfl⟩:=val_bool hv2
   refine Au z z z ?_
   rintro _ _ ⟨rfl,rfl⟩
   refine Au z z z ?_
   rintro _ _ ⟨⟨_,hx1,hx2⟩,rfl⟩
   obtain rfl:=Value.tuple.inj hx1
   obtain rfl:=Aa (show (some v8:Option Value)=some _ from hx2)
   refine Au z z z ?_
   rintro _ F3 ⟨b6,rfl,hv3⟩
   refine Bn ?_
   intro hn5 hb5
   have hC15:=hC13.pushL hB9 (Bs:=[Ac b6 [(I 0),(.slice none 0 0),(I 0),(I 0)],Ae v8 (x10.1:((Int × (List Int)) × Int × Int))]) (Fs:=[F3,F1]) ⟨F3,_,z,hv3,F1,_,z,hv1,z⟩ (by simpa using hn5) (fun b h=>(hb5 b (by simpa using h)).1)
   have hC16:=hC15.f1
   obtain ⟨v11,rfl,hC17⟩:=st49_own hC16
   refine tk 9 z z (BX z z)<|AM z z z<|Ab<|oe 11 z<|Al (cs':=[(I x10.1.1.1),v11,(I x10.1.2.1),(I x10.1.2.2)]) (new:=[(I x10.1.1.1),v11,(I x10.1.2.1),(I x10.1.2.2)]) hC17 1 z z (fac z<|fac (AP (hC17.ro 0 z))<|fac z<|fac z<|fa0) z A5 z z fun w15 hC18 hKp2=>?_
   try dsimp only [List.set] at hC18
   refine Ab<|ta 12 z z z<|dn<|?_
   obtain rfl:=Aa hr3
   have hC19:=hC18.f9
   have hC20:=hC19.f9
   have hC21:=hC20.f5
   have hC22:=hC21.f9
   have hC23:=hC22.f9
   have hC24:=hC23.f9
   have hC25:=hC24.f9
   have hC26:=hC25.f7
   have hC27:=hC26.f8
   have hC28:=hC27.h9
   exact Ay (l':=[(4,(ptr b1 0)),(5,(ptr b2 0)),(7,(ptr b3 0)),(8,v1),(9,v2),(10,(ptr b4 0)),(11,(ptr b6 0))]) ⟨z,z,z,z,z,z,z,Am⟩<|⟨x9.2.2.1,x9.2.2.2,b6,x10.1.1.1,v11,x10.1.1.2,x10.1.2.1,x10.1.2.2,z,z,hC28⟩
  refine AW hC10 zero49 z z fun b6 w10 hC11 hB6 hN4=>Ab<|BY (i:=2) (j:=5) (by kernel_rfl) z z ?_ ?_
  ·refine Ar [v4,(I x2.2.2.1.2)] hC11 1 z z z A9 Aw z z<|Ab<|be hr3 fun x9 hr4 hr3=>oe 5 z<|have hC12:=hC11.f5;?_
   obtain ⟨Fs3,hH3,hn3,hF3,hO3,hb3⟩:=AB (As:=[Ac b6 [(I 0),(.slice none 0 0),(I 0),(I 0)],Ac b4 [v4,(I x2.2.2.1.2)],Ae v4 (x2.2.2.1.1:(List (Int × (List Int)))),Ae v1 (x2.1:(List Int)),Ae v2 (x2.2.1:(List (Int × (List Int) × Int × Int × Int))),Ac b2 [(I 0),(.slice none 0 0),(I 0),(I 0)],Ac b1 [(.slice none 0 0),(I 0)]]) [Ac b3 [u1,(I x2.2.2.2.2.1),(I x2.2.2.2.2.2)]] hC12
   refine A8 C5 z z (c_S_l5Access b3 (a1,x2.2.2.2.2.1,x2.2.2.2.2.2) u1 (AJ g1 hC12.keep hF3) x2.2.1 v2 (hO3 4 _ _ _ z) hH3 hn3 x9 hr4) ?_
   rintro v6 w11 ⟨_,rfl,hq3⟩
   have hC13:Ctx [] w0 w11 [Ae v6 (x9.1:(Int × (List Int))),Ac b3 [u1,(I x9.2.2.1),(I x9.2.2.2)],Ac b6 [(I 0),(.slice none 0 0),(I 0),(I 0)],Ac b4 [v4,(I x2.2.2.1.2)],Ae v4 (x2.2.2.1.1:(List (Int × (List Int)))),Ae v1 (x2.1:(List Int)),Ae v2 (x2.2.1:(List (Int × (List Int) × Int × Int × Int))),Ac b2 [(I 0),(.slice none 0 0),(I 0),(I 0)],Ac b1 [(.slice none 0 0),(I 0)]]:=hb3 _ _ hq3
   obtain ⟨v7,rfl,hC14⟩:=st45_own hC13
   refine Ab<|be hr3 fun x10 hr5 hr3=>oe 6 z<|A8 C6 z z (c_S_OpenCursor x2.1 v1 ((hC14.ro 5 z).now (Be _ _)) x2.2.1 v2 ((hC14.ro 6 z).now (Be _ _)) (x2.2.2.1.1,x2.2.2.1.2) v4 ((hC14.ro 4 z).now (Be _ _)) x9.1 v7 ((hC14.ro 0 z).now (Be _ _)) x10 hr5)<|?_
   rintro _ w12 ⟨hB7,v8,v9,F1,F2,rfl,hv1,hv2,hn4,hb4⟩
   obtain ⟨rfl,rfl⟩:=val_bool hv2
   have hC15:=hC14.pushL hB7 (Bs:=[Ae v8 x10.1]) (Fs:=[F1]) ⟨F1,_,z,hv1,z⟩ (by simpa using hn4) (fun b h=>hb4 b (by simpa using h))
   obtain ⟨v10,rfl,hC16⟩:=st49_own hC15
   refine Ab<|tm 7 z z z<|tk 8 z z (BX z z)<|AM z z z<|Ab<|tk 9 z z (BX z z)<|AM z z z<|Ab<|oe 11 z<|Al (cs':=[(I x10.1.1.1),v10,(I x10.1.2.1),(I x10.1.2.2)]) (new:=[(I x10.1.1.1),v10,(I x10.1.2.1),(I x10.1.2.2)]) hC16 3 z z (fac z<|fac (AP (hC16.ro 0 z))<|fac z<|fac z<|fa0) z A5 z z fun w13 hC17 hKp2=>?_
   try dsimp only [List.set] at hC17
   refine Ab<|ta 12 z z z<|dn<|?_
   obtain rfl:=Aa hr3
   have hC18:=hC17.f9
   have hC19:=hC18.f9
   have hC20:=hC19.f4
   have hC21:=hC20.f9
   have hC22:=hC21.f9
   have hC23:=hC22.f9
   have hC24:=hC23.f9
   have hC25:=hC24.f7
   have hC26:=hC25.f9
   have hC27:=hC26.h9
   exact Ay (l':=[(4,(ptr b1 0)),(5,(ptr b2 0)),(7,(ptr b3 0)),(8,v1),(9,v2),(10,(ptr b4 0)),(11,(ptr b6 0))]) ⟨z,z,z,z,z,z,z,Am⟩<|⟨x9.2.2.1,x9.2.2.2,b6,x10.1.1.1,v10,x10.1.1.2,x10.1.2.1,x10.1.2.2,z,z,hC27⟩
  refine be hr3 fun x9 hr4 hr3=>have hC12:=hC11.f5;?_
  obtain ⟨Fs3,hH3,hn3,hF3,hO3,hb3⟩:=AB (As:=[Ac b6 [(I 0),(.slice none 0 0),(I 0),(I 0)],Ac b4 [v4,(I x2.2.2.1.2)],Ae v4 (x2.2.2.1.1:(List (Int × (List Int)))),Ae v1 (x2.1:(List Int)),Ae v2 (x2.2.1:(List (Int × (List Int) × Int × Int × Int))),Ac b2 [(I 0),(.slice none 0 0),(I 0),(I 0)],Ac b1 [(.slice none 0 0),(I 0)]]) [Ac b3 [u1,(I x2.2.2.2.2.1),(I x2.2.2.2.2.2)]] hC12
  refine A8 C5 z z (c_S_l5Access b3 (a1,x2.2.2.2.2.1,x2.2.2.2.2.2) u1 (AJ g1 hC12.keep hF3) x2.2.1 v2 (hO3 4 _ _ _ z) hH3 hn3 x9 hr4) ?_
  rintro v6 w11 ⟨_,rfl,hq3⟩
  have hC13:Ctx [] w0 w11 [Ae v6 (x9.1:(Int × (List Int))),Ac b3 [u1,(I x9.2.2.1),(I x9.2.2.2)],Ac b6 [(I 0),(.slice none 0 0),(I 0),(I 0)],Ac b4 [v4,(I x2.2.2.1.2)],Ae v4 (x2.2.2.1.1:(List (Int × (List Int)))),Ae v1 (x2.1:(List Int)),Ae v2 (x2.2.1:(List (Int × (List Int) × Int × Int × Int))),Ac b2 [(I 0),(.slice none 0 0),(I 0),(I 0)],Ac b1 [(.slice none 0 0),(I 0)]]:=hb3 _ _ hq3
  obtain ⟨v7,rfl,hC14⟩:=st45_own hC13
  refine Ab<|oe 2 z<|Ar [v4,(I x2.2.2.1.2)] hC14 3 z z z A9 Aw z z<|Ab<|be hr3 fun x10 hr5 hr3=>oe 6 z<|A8 C6 z z (c_S_OpenCursor x2.1 v1 ((hC14.ro 5 z).now (Be _ _)) x2.2.1 v2 ((hC14.ro 6 z).now (Be _ _)) (x2.2.2.1.1,x2.2.2.1.2) v4 ((hC14.ro 4 z).now (Be _ _)) x9.1 v7 ((hC14.ro 0 z).now (Be _ _)) x10 hr5)<|?_
  rintro _ w12 ⟨hB7,v8,v9,F1,F2,rfl,hv1,hv2,hn4,hb4⟩
  obtain ⟨rfl,rfl⟩:=val_bool hv2
  have hC15:=hC14.pushL hB7 (Bs:=[Ae v8 x10.1]) (Fs:=[F1]) ⟨F1,_,z,hv1,z⟩ (by simpa using hn4) (fun b h=>hb4 b (by simpa using h))
  obtain ⟨v10,rfl,hC16⟩:=st49_own hC15
  refine Ab<|tm 7 z z z<|tk 8 z z (BX z z)<|AM z z z<|Ab<|tk 9 z z (BX z z)<|AM z z z<|Ab<|oe 11 z<|Al (cs':=[(I x10.1.1.1),v10,(I x10.1.2.1),(I x10.1.2.2)]) (new:=[(I x10.1.1.1),v10,(I x10.1.2.1),(I x10.1.2.2)]) hC16 3 z z (fac z<|fac (AP (hC16.ro 0 z))<|fac z<|fac z<|fa0) z A5 z z fun w13 hC17 hKp2=>?_
  try dsimp only [List.set] at hC17
  refine Ab<|ta 12 z z z<|dn<|?_
  obtain rfl:=Aa hr3
  have hC18:=hC17.f9
  have hC19:=hC18.f9
  have hC20:=hC19.f4
  have hC21:=hC20.f9
  have hC22:=hC21.f9
  have hC23:=hC22.f9
  have hC24:=hC23.f9
  have hC25:=hC24.f7
  have hC26:=hC25.f9
  have hC27:=hC26.h9
  exact Ay (l':=[(4,(ptr b1 0)),(5,(ptr b2 0)),(7,(ptr b3 0)),(8,v1),(9,v2),(10,(ptr b4 0)),(11,(ptr b6 0))]) ⟨z,z,z,z,z,z,z,Am⟩<|⟨x9.2.2.1,x9.2.2.2,b6,x10.1.1.1,v10,x10.1.1.2,x10.1.2.1,x10.1.2.2,z,z,hC27⟩
 rintro _ w7 ⟨x3,x4,b5,x5,v5,x6,x7,x8,rfl,rfl,hC9⟩
 try dsimp only at hF
 refine Ad<|Af z z<|be hF fun x11 hr6 hF=>have hC29:=hC9.f6;?_
 obtain ⟨Fs4,hH4,hn6,hF4,hO4,hb6⟩:=AB (As:=[Ac b5 [(I x5),v5,(I x7),(I x8)],Ae v5 (x6:(List Int)),Ac b4 [v4,(I x2.2.2.1.2)],Ae v4 (x2.2.2.1.1:(List (Int × (List Int)))),Ae v1 (x2.1:(List Int)),Ae v2 (x2.2.1:(List (Int × (List Int) × Int × Int × Int))),Ac b2 [(I 0),(.slice none 0 0),(I 0),(I 0)],Ac b1 [(.slice none 0 0),(I 0)]]) [Ac b3 [u1,(I x3),(I x4)]] hC29
 refine A8 Bw z z (c_S_l1Below b3 (a1,x3,x4) u1 (AJ g1 hC29.keep hF4) 6 hH4 hn6 x11 hr6) ?_
 rintro _ w16 ⟨rfl,hq5⟩
 have hC30:Ctx [] w0 w16 [Ac b3 [u1,(I x11.2.2.1),(I x11.2.2.2)],Ac b5 [(I x5),v5,(I x7),(I x8)],Ae v5 (x6:(List Int)),Ac b4 [v4,(I x2.2.2.1.2)],Ae v4 (x2.2.2.1.1:(List (Int × (List Int)))),Ae v1 (x2.1:(List Int)),Ae v2 (x2.2.1:(List (Int × (List Int) × Int × Int × Int))),Ac b2 [(I 0),(.slice none 0 0),(I 0),(I 0)],Ac b1 [(.slice none 0 0),(I 0)]]:=hb6 _ _ hq5
 refine fd AZ Az z z z z<|Br (cs':=[(I x5),v5,(I x11.1),(I x8)]) hC30 1 z z z z Az z z fun w17 hC31 hKp3=>?_
 try dsimp only [List.set] at hC31
 refine Ab<|AC<|Ad<|Af z z<|be hF fun x12 hr7 hF=>?_
 obtain ⟨Fs5,hH5,hn7,hF5,hO5,hb7⟩:=AB (As:=[Ac b5 [(I x5),v5,(I x11.1),(I x8)],Ae v5 (x6:(List Int)),Ac b4 [v4,(I x2.2.2.1.2)],Ae v4 (x2.2.2.1.1:(List (Int × (List Int)))),Ae v1 (x2.1:(List Int)),Ae v2 (x2.2.1:(List (Int × (List Int) × Int × Int × Int))),Ac b2 [(I 0),(.slice none 0 0),(I 0),(I 0)],Ac b1 [(.slice none 0 0),(I 0)]]) [Ac b3 [u1,(I x11.2.2.1),(I x11.2.2.2)]] hC31
 refine A8 Cj z z (c_S_l1Once b3 (a1,x11.2.2.1,x11.2.2.2) u1 (AJ g1 hC31.keep hF5) 5 hH5 hn7 x12 hr7) ?_
 rintro _ w18 ⟨rfl,hq6⟩
 have hC32:Ctx [] w0 w18 [Ac b3 [u1,(I x12.2.2.1),(I x12.2.2.2)],Ac b5 [(I x5),v5,(I x11.1),(I x8)],Ae v5 (x6:(List Int)),Ac b4 [v4,(I x2.2.2.1.2)],Ae v4 (x2.2.2.1.1:(List (Int × (List Int)))),Ae v1 (x2.1:(List Int)),Ae v2 (x2.2.1:(List (Int × (List Int) × Int × Int × Int))),Ac b2 [(I 0),(.slice none 0 0),(I 0),(I 0)],Ac b1 [(.slice none 0 0),(I 0)]]:=hb7 _ _ hq6
 refine Ab<|be hF fun r2 hr8 hF=>Bv (fun l w=>∃x13:Int,∃v12:Value,∃x14:(List Int),∃x15:Int,∃x16:Int,(x13,x14,x15,x16)=r2∧l=[(4,(ptr b1 0)),(5,(ptr b2 0)),(7,(ptr b3 0)),(8,v1),(9,v2),(10,(ptr b4 0)),(11,(ptr b5 0))]∧Ctx [] w0 w [Ac b3 [u1,(I x12.2.2.1),(I x12.2.2.2)],Ac b5 [(I x13),v12,(I x15),(I x16)],Ae v12 (x14:(List Int)),Ac b4 [v4,(I x2.2.2.1.2)],Ae v4 (x2.2.2.1.1:(List (Int × (List Int)))),Ae v1 (x2.1:(List Int)),Ae v2 (x2.2.1:(List (Int × (List Int) × Int × Int × Int))),Ac b2 [(I 0),(.slice none 0 0),(I 0),(I 0)],Ac b1 [(.slice none 0 0),(I 0)]]) ?_ ?_
 ·refine AN z (fun hc1=>?_) (fun hc1=>?_)
  ·replace hr8:=AF hr8 hc1
   refine Bt<|fd AZ Az z z z z<|At hC32 1 z z AA z z<|By z z z<|fd AZ Az z z z z<|Br (cs':=[(I x5),v5,(I x11.1),(I (w64 (x8+1)))]) hC32 1 z z z z Az z z fun w20 hC34 hKp4=>?_
   try dsimp only [List.set] at hC34
   refine Ab ?_
   obtain rfl:=Aa hr8
   exact Ay (l':=[(4,(ptr b1 0)),(5,(ptr b2 0)),(7,(ptr b3 0)),(8,v1),(9,v2),(10,(ptr b4 0)),(11,(ptr b5 0))]) ⟨z,z,z,z,z,z,z,Am⟩<|⟨x5,v5,x6,x11.1,w64 (x8+1),z,z,hC34⟩
  replace hr8:=AG hr8 hc1
  refine AR ?_
  obtain rfl:=Aa hr8
  exact Ay (l':=[(4,(ptr b1 0)),(5,(ptr b2 0)),(7,(ptr b3 0)),(8,v1),(9,v2),(10,(ptr b4 0)),(11,(ptr b5 0))]) ⟨z,z,z,z,z,z,z,Am⟩<|⟨x5,v5,x6,x11.1,x8,z,z,hC32⟩
 rintro l2 _ w19 hs2 ⟨x13,v12,x14,x15,x16,rfl,rfl,hC33⟩
 try dsimp only at hF
 refine Bj hs2 ?_
 clear hs2
 refine be hF fun r3 hr9 hF=>BP (fun l w=>∃x17:Int,∃x18:Int,∃x19:Int,∃v13:Value,∃x20:(List Int),∃x21:Int,∃x22:Int,∃v14:Value,∃x23:(List (Int × (List Int))),∃x24:Int,∃v15:Value,∃x25:(List Int),∃v16:Value,∃x26:(List (Int × (List Int) × Int × Int × Int)),∃x27:Int,(x17,x18,x19,x20,x21,x22,x23,x24,x25,x26,x27)=r3∧l=[(2,v15),(3,v16),(4,(ptr b1 0)),(5,(ptr b2 0)),(6,(I x27))]∧Ctx [] w0 w [Ae v16 (x26:(List (Int × (List Int) × Int × Int × Int))),Ae v15 (x25:(List Int)),Ae v14 (x23:(List (Int × (List Int)))),Ae v13 (x20:(List Int)),Ac b2 [(I x19),v13,(I x21),(I x22)],Ac b1 [v14,(I x24)]]) ?_ ?_
 ·refine W_drawn 11 z hmix fun w22 hB12=>have hC36:=hC33.grow hB12;tm 0 z z z<|tm 1 z z z<|tm 4 z z z<|WA_all3 (i:=2) (j:=3) (m:=5) (by kernel_rfl) z z z ?_ ?_ ?_
  ·refine Ar [v4,(I x2.2.2.1.2)] hC36 3 z z z A9 Aw z z<|Ab<|BY (i:=3) (j:=5) (by kernel_rfl) z z ?_ ?_
   ·refine Ar [(I x13),v12,(I x15),(I x16)] hC36 1 z z z Bg A5 z z<|Ab<|be hr9 fun x28 hr10 hr9=>oe 5 z<|?_
    obtain ⟨Fs6,hH6,hn8,hF6,hO6,hb8⟩:=AB (As:=[Ac b5 [(I x13),v12,(I x15),(I x16)],Ae v12 (x14:(List Int)),Ac b4 [v4,(I x2.2.2.1.2)],Ae v4 (x2.2.2.1.1:(List (Int × (List Int)))),Ae v1 (x2.1:(List Int)),Ae v2 (x2.2.1:(List (Int × (List Int) × Int × Int × Int))),Ac b2 [(I 0),(.slice none 0 0),(I 0),(I 0)],Ac b1 [(.slice none 0 0),(I 0)]]) [Ac b3 [u1,(I x12.2.2.1),(I x12.2.2.2)]] hC36
    refine A8 Bw z z (c_S_l1Below b3 (a1,x12.2.2.1,x12.2.2.2) u1 (AJ g1 hC36.keep hF6) 6 hH6 hn8 x28 hr10) ?_
    rintro _ w23 ⟨rfl,hq9⟩
    have hC37:Ctx [] w0 w23 [Ac b3 [u1,(I x28.2.2.1),(I x28.2.2.2)],Ac b5 [(I x13),v12,(I x15),(I x16)],Ae v12 (x14:(List Int)),Ac b4 [v4,(I x2.2.2.1.2)],Ae v4 (x2.2.2.1.1:(List (Int × (List Int)))),Ae v1 (x2.1:(List Int)),Ae v2 (x2.2.1:(List (Int × (List Int) × Int × Int × Int))),Ac b2 [(I 0),(.slice none 0 0),(I 0),(I 0)],Ac b1 [(.slice none 0 0),(I 0)]]:=hb8 _ _ hq9
    refine Ab<|ta 6 z z z<|ta 7 z z z<|oe 8 z<|Al (cs':=[v4,(I x2.2.2.1.2)]) (new:=[v4,(I x2.2.2.1.2)]) hC37 8 z z (fac (AP (hC37.ro 4 z))<|fac z<|fa0) z Aw z z fun w24 hC38 hKp5=>?_
    try dsimp only [List.set] at hC38
    refine Ab<|oe 9 z<|Al (cs':=[(I x13),v12,(I x15),(I x16)]) (new:=[(I x13),v12,(I x15),(I x16)]) hC38 7 z z (fac z<|fac (AP (hC38.ro 2 z))<|fac z<|fac z<|fa0) z A5 z z fun w25 hC39 hKp6=>?_
    try dsimp only [List.set] at hC39
    refine Ab<|ta 10 z z z<|dn<|?_
    obtain rfl:=Aa hr9
    have hC40:=hC39.f8
    have hC41:=hC40.f8
    have hC42:=hC41.f4
    have hC43:=hC42.f6
    have hC44:=hC43.f7
    have hC45:=hC44.f8
    have hC46:=hC45.h6
    exact Ay (l':=[(2,v1),(3,v2),(4,(ptr b1 0)),(5,(ptr b2 0)),(6,(I x28.1))]) ⟨z,z,z,z,z,Am⟩<|⟨x28.2.2.1,x28.2.2.2,x13,v12,x14,x15,x16,v4,x2.2.2.1.1,x2.2.2.1.2,v1,x2.1,v2,x2.2.1,x28.1,z,z,hC46⟩
   obtain ⟨x28,hr10,hr9⟩:=Cz hr9
   obtain ⟨Fs6,hH6,hn8,hF6,hO6,hb8⟩:=AB (As:=[Ac b5 [(I x13),v12,(I x15),(I x16)],Ae v12 (x14:(List Int)),Ac b4 [v4,(I x2.2.2.1.2)],Ae v4 (x2.2.2.1.1:(List (Int × (List Int)))),Ae v1 (x2.1:(List Int)),Ae v2 (x2.2.1:(List (Int × (List Int) × Int × Int × Int))),Ac b2 [(I 0),(.slice none 0 0),(I 0),(I 0)],Ac b1 [(.slice none 0 0),(I 0)]]) [Ac b3 [u1,(I x12.2.2.1),(I x12.2.2.2)]] hC36
   refine A8 Bw z z (c_S_l1Below b3 (a1,x12.2.2.1,x12.2.2.2) u1 (AJ g1 hC36.keep hF6) 6 hH6 hn8 x28 hr10) ?_
   rintro _ w23 ⟨rfl,hq9⟩
   have hC37:Ctx [] w0 w23 [Ac b3 [u1,(I x28.2.2.1),(I x28.2.2.2)],Ac b5 [(I x13),v12,(I x15),(I x16)],Ae v12 (x14:(List Int)),Ac b4 [v4,(I x2.2.2.1.2)],Ae v4 (x2.2.2.1.1:(List (Int × (List Int)))),Ae v1 (x2.1:(List Int)),Ae v2 (x2.2.1:(List (Int × (List Int) × Int × Int × Int))),Ac b2 [(I 0),(.slice none 0 0),(I 0),(I 0)],Ac b1 [(.slice none 0 0),(I 0)]]:=hb8 _ _ hq9
   refine Ab<|ta 6 z z z<|ta 7 z z z<|BY (i:=3) (j:=8) (by kernel_rfl) z z ?_ ?_
   ·refine Ar [(I x13),v12,(I x15),(I x16)] hC37 1 z z z Bg A5 z z<|Ab<|oe 8 z<|Al (cs':=[v4,(I x2.2.2.1.2)]) (new:=[v4,(I x2.2.2.1.2)]) hC37 8 z z (fac (AP (hC37.ro 4 z))<|fac z<|fa0) z Aw z z fun w24 hC38 hKp5=>?_
    try dsimp only [List.set] at hC38
    refine Ab<|oe 9 z<|Al (cs':=[(I x13),v12,(I x15),(I x16)]) (new:=[(I x13),v12,(I x15),(I x16)]) hC38 7 z z (fac z<|fac (AP (hC38.ro 2 z))<|fac z<|fac z<|fa0) z A5 z z fun w25 hC39 hKp6=>?_
    try dsimp only [List.set] at hC39
    refine Ab<|ta 10 z z z<|dn<|?_
    obtain rfl:=Aa hr9
    have hC40:=hC39.f8
    have hC41:=hC40.f8
    have hC42:=hC41.f4
    have hC43:=hC42.f6
    have hC44:=hC43.f7
    have hC45:=hC44.f8
    have hC46:=hC45.h6
    exact Ay (l':=[(2,v1),(3,v2),(4,(ptr b1 0)),(5,(ptr b2 0)),(6,(I x28.1))]) ⟨z,z,z,z,z,Am⟩<|⟨x28.2.2.1,x28.2.2.2,x13,v12,x14,x15,x16,v4,x2.2.2.1.1,x2.2.2.1.2,v1,x2.1,v2,x2.2.1,x28.1,z,z,hC46⟩
   refine Al (cs':=[v4,(I x2.2.2.1.2)]) (new:=[v4,(I x2.2.2.1.2)]) hC37 8 z z (fac (AP (hC37.ro 4 z))<|fac z<|fa0) z Aw z z (fun w24 hC38 hKp5=>?_)
   try dsimp only [List.set] at hC38
   refine Ab<|oe 3 z<|Ar [(I x13),v12,(I x15),(I x16)] hC38 1 z z z Bg A5 z z<|Ab<|oe 9 z<|Al (cs':=[(I x13),v12,(I x15),(I x16)]) (new:=[(I x13),v12,(I x15),(I x16)]) hC38 7 z z (fac z<|fac (AP (hC38.ro 2 z))<|fac z<|fac z<|fa0) z A5 z z fun w25 hC39 hKp6=>?_
   try dsimp only [List.set] at hC39
   refine Ab<|ta 10 z z z<|dn<|?_
   obtain rfl:=Aa hr9
   have hC40:=hC39.f8
   have hC41:=hC40.f8
   have hC42:=hC41.f4
   have hC43:=hC42.f6
   have hC44:=hC43.f7
   have hC45:=hC44.f8
   have hC46:=hC45.h6
   exact Ay (l':=[(2,v1),(3,v2),(4,(ptr b1 0)),(5,(ptr b2 0)),(6,(I x28.1))]) ⟨z,z,z,z,z,Am⟩<|⟨x28.2.2.1,x28.2.2.2,x13,v12,x14,x15,x16,v4,x2.2.2.1.1,x2.2.2.1.2,v1,x2.1,v2,x2.2.1,x28.1,z,z,hC46⟩
  ·refine Ar [(I x13),v12,(I x15),(I x16)] hC36 1 z z z Bg A5 z z<|Ab<|BY (i:=2) (j:=5) (by kernel_rfl) z z ?_ ?_
   ·refine Ar [v4,(I x2.2.2.1.2)] hC36 3 z z z A9 Aw z z<|Ab<|be hr9 fun x28 hr10 hr9=>oe 5 z<|?_
    obtain ⟨Fs6,hH6,hn8,hF6,hO6,hb8⟩:=AB (As:=[Ac b5 [(I x13),v12,(I x15),(I x16)],Ae v12 (x14:(List Int)),Ac b4 [v4,(I x2.2.2.1.2)],Ae v4 (x2.2.2.1.1:(List (Int × (List Int)))),Ae v1 (x2.1:(List Int)),Ae v2 (x2.2.1:(List (Int × (List Int) × Int × Int × Int))),Ac b2 [(I 0),(.slice none 0 0),(I 0),(I 0)],Ac b1 [(.slice none 0 0),(I 0)]]) [Ac b3 [u1,(I x12.2.2.1),(I x12.2.2.2)]] hC36
    refine A8 Bw z z (c_S_l1Below b3 (a1,x12.2.2.1,x12.2.2.2) u1 (AJ g1 hC36.keep hF6) 6 hH6 hn8 x28 hr10) ?_
    rintro _ w23 ⟨rfl,hq9⟩
    have hC37:Ctx [] w0 w23 [Ac b3 [u1,(I x28.2.2.1),(I x28.2.2.2)],Ac b5 [(I x13),v12,(I x15),(I x16)],Ae v12 (x14:(List Int)),Ac b4 [v4,(I x2.2.2.1.2)],Ae v4 (x2.2.2.1.1:(List (Int × (List Int)))),Ae v1 (x2.1:(List Int)),Ae v2 (x2.2.1:(List (Int × (List Int) × Int × Int × Int))),Ac b2 [(I 0),(.slice none 0 0),(I 0),(I 0)],Ac b1 [(.slice none 0 0),(I 0)]]:=hb8 _ _ hq9
    refine Ab<|ta 6 z z z<|ta 7 z z z<|oe 8 z<|Al (cs':=[v4,(I x2.2.2.1.2)]) (new:=[v4,(I x2.2.2.1.2)]) hC37 8 z z (fac (AP (hC37.ro 4 z))<|fac z<|fa0) z Aw z z fun w24 hC38 hKp5=>?_
    try dsimp only [List.set] at hC38
    refine Ab<|oe 9 z<|Al (cs':=[(I x13),v12,(I x15),(I x16)]) (new:=[(I x13),v12,(I x15),(I x16)]) hC38 7 z z (fac z<|fac (AP (hC38.ro 2 z))<|fac z<|fac z<|fa0) z A5 z z fun w25 hC39 hKp6=>?_
    try dsimp only [List.set] at hC39
    refine Ab<|ta 10 z z z<|dn<|?_
    obtain rfl:=Aa hr9
    have hC40:=hC39.f8
    have hC41:=hC40.f8
    have hC42:=hC41.f4
    have hC43:=hC42.f6
    have hC44:=hC43.f7
    have hC45:=hC44.f8
    have hC46:=hC45.h6
    exact Ay (l':=[(2,v1),(3,v2),(4,(ptr b1 0)),(5,(ptr b2 0)),(6,(I x28.1))]) ⟨z,z,z,z,z,Am⟩<|⟨x28.2.2.1,x28.2.2.2,x13,v12,x14,x15,x16,v4,x2.2.2.1.1,x2.2.2.1.2,v1,x2.1,v2,x2.2.1,x28.1,z,z,hC46⟩
   obtain ⟨x28,hr10,hr9⟩:=Cz hr9
   obtain ⟨Fs6,hH6,hn8,hF6,hO6,hb8⟩:=AB (As:=[Ac b5 [(I x13),v12,(I x15),(I x16)],Ae v12 (x14:(List Int)),Ac b4 [v4,(I x2.2.2.1.2)],Ae v4 (x2.2.2.1.1:(List (Int × (List Int)))),Ae v1 (x2.1:(List Int)),Ae v2 (x2.2.1:(List (Int × (List Int) × Int × Int × Int))),Ac b2 [(I 0),(.slice none 0 0),(I 0),(I 0)],Ac b1 [(.slice none 0 0),(I 0)]]) [Ac b3 [u1,(I x12.2.2.1),(I x12.2.2.2)]] hC36
   refine A8 Bw z z (c_S_l1Below b3 (a1,x12.2.2.1,x12.2.2.2) u1 (AJ g1 hC36.keep hF6) 6 hH6 hn8 x28 hr10) ?_
   rintro _ w23 ⟨rfl,hq9⟩
   have hC37:Ctx [] w0 w23 [Ac b3 [u1,(I x28.2.2.1),(I x28.2.2.2)],Ac b5 [(I x13),v12,(I x15),(I x16)],Ae v12 (x14:(List Int)),Ac b4 [v4,(I x2.2.2.1.2)],Ae v4 (x2.2.2.1.1:(List (Int × (List Int)))),Ae v1 (x2.1:(List Int)),Ae v2 (x2.2.1:(List (Int × (List Int) × Int × Int × Int))),Ac b2 [(I 0),(.slice none 0 0),(I 0),(I 0)],Ac b1 [(.slice none 0 0),(I 0)]]:=hb8 _ _ hq9
   refine Ab<|ta 6 z z z<|ta 7 z z z<|oe 2 z<|Ar [v4,(I x2.2.2.1.2)] hC37 3 z z z A9 Aw z z<|Ab<|oe 8 z<|Al (cs':=[v4,(I x2.2.2.1.2)]) (new:=[v4,(I x2.2.2.1.2)]) hC37 8 z z (fac (AP (hC37.ro 4 z))<|fac z<|fa0) z Aw z z fun w24 hC38 hKp5=>?_
   try dsimp only [List.set] at hC38
   refine Ab<|oe 9 z<|Al (cs':=[(I x13),v12,(I x15),(I x16)]) (new:=[(I x13),v12,(I x15),(I x16)]) hC38 7 z z (fac z<|fac (AP (hC38.ro 2 z))<|fac z<|fac z<|fa0) z A5 z z fun w25 hC39 hKp6=>?_
   try dsimp only [List.set] at hC39
   refine Ab<|ta 10 z z z<|dn<|?_
   obtain rfl:=Aa hr9
   have hC40:=hC39.f8
   have hC41:=hC40.f8
   have hC42:=hC41.f4
   have hC43:=hC42.f6
   have hC44:=hC43.f7
   have hC45:=hC44.f8
   have hC46:=hC45.h6
   exact Ay (l':=[(2,v1),(3,v2),(4,(ptr b1 0)),(5,(ptr b2 0)),(6,(I x28.1))]) ⟨z,z,z,z,z,Am⟩<|⟨x28.2.2.1,x28.2.2.2,x13,v12,x14,x15,x16,v4,x2.2.2.1.1,x2.2.2.1.2,v1,x2.1,v2,x2.2.1,x28.1,z,z,hC46⟩
  obtain ⟨x28,hr10,hr9⟩:=Cz hr9
  obtain ⟨Fs6,hH6,hn8,hF6,hO6,hb8⟩:=AB (As:=[Ac b5 [(I x13),v12,(I x15),(I x16)],Ae v12 (x14:(List Int)),Ac b4 [v4,(I x2.2.2.1.2)],Ae v4 (x2.2.2.1.1:(List (Int × (List Int)))),Ae v1 (x2.1:(List Int)),Ae v2 (x2.2.1:(List (Int × (List Int) × Int × Int × Int))),Ac b2 [(I 0),(.slice none 0 0),(I 0),(I 0)],Ac b1 [(.slice none 0 0),(I 0)]]) [Ac b3 [u1,(I x12.2.2.1),(I x12.2.2.2)]] hC36
  refine A8 Bw z z (c_S_l1Below b3 (a1,x12.2.2.1,x12.2.2.2) u1 (AJ g1 hC36.keep hF6) 6 hH6 hn8 x28 hr10) ?_
  rintro _ w23 ⟨rfl,hq9⟩
  have hC37:Ctx [] w0 w23 [Ac b3 [u1,(I x28.2.2.1),(I x28.2.2.2)],Ac b5 [(I x13),v12,(I x15),(I x16)],Ae v12 (x14:(List Int)),Ac b4 [v4,(I x2.2.2.1.2)],Ae v4 (x2.2.2.1.1:(List (Int × (List Int)))),Ae v1 (x2.1:(List Int)),Ae v2 (x2.2.1:(List (Int × (List Int) × Int × Int × Int))),Ac b2 [(I 0),(.slice none 0 0),(I 0),(I 0)],Ac b1 [(.slice none 0 0),(I 0)]]:=hb8 _ _ hq9
  refine Ab<|ta 6 z z z<|ta 7 z z z<|wAS (l':=[(2,v1),(3,v2),(4,(ptr b1 0)),(5,(ptr b2 0)),(7,(ptr b3 0)),(8,v1),(9,v2),(10,(ptr b4 0)),(11,(ptr b5 0)),(40,v1),(41,v2),(44,(ptr b3 0)),(45,(I x28.1))]) ⟨z,z,z,z,z,z,z,z,z,z,z,z,z,Am⟩<|WA_postsO [⟨2,[],fun vs=>AU (.agg #[v4,(I x2.2.2.1.2)]),[]⟩,⟨3,[],fun vs=>AU (.agg #[(I x13),v12,(I x15),(I x16)]),[]⟩] [[],[]] [3] 3 z (by kernel_rfl) (by kernel_rfl) ?_ ⟨?_,?_,Am⟩
  ·refine An z ?_ ?_
   ·intro w24 hB13
    refine Av<|⟨_,z,?_⟩
    exact Ar [v4,(I x2.2.2.1.2)] (hC37.grow hB13) 3 z z z A9 Aw z z<|Ab<|A0 (Aq _ _) z z ⟨z,z⟩
   refine An z ?_ ?_
   ·intro w24 hB13
    refine Av<|⟨_,z,?_⟩
    exact Ar [(I x13),v12,(I x15),(I x16)] (hC37.grow hB13) 1 z z z Bg A5 z z<|Ab<|A0 (Aq _ _) z z ⟨z,z⟩
   exact Bd
  ·intro g' hg'
   obtain rfl:g'=3:=hg'
   intro w25 hB14
   refine Au z z z ?_
   rintro _ _ ⟨rfl,rfl⟩
   refine Au z z z ?_
   rintro _ _ ⟨rfl,rfl⟩
   refine Bn fun hn9 hb9=>have hC38:=hC37.grow hB14;oe 8 z<|Al (cs':=[v4,(I x2.2.2.1.2)]) (new:=[v4,(I x2.2.2.1.2)]) hC38 8 z z (fac (AP (hC38.ro 4 z))<|fac z<|fa0) z Aw z z fun w26 hC39 hKp5=>?_
   try dsimp only [List.set] at hC39
   refine Ab<|oe 9 z<|Al (cs':=[(I x13),v12,(I x15),(I x16)]) (new:=[(I x13),v12,(I x15),(I x16)]) hC39 7 z z (fac z<|fac (AP (hC39.ro 2 z))<|fac z<|fac z<|fa0) z A5 z z fun w27 hC40 hKp6=>?_
   try dsimp only [List.set] at hC40
   refine Ab<|ta 10 z z z<|dn<|?_
   obtain rfl:=Aa hr9
   have hC41:=hC40.f8
   have hC42:=hC41.f8
   have hC43:=hC42.f4
   have hC44:=hC43.f6
   have hC45:=hC44.f7
   have hC46:=hC45.f8
   have hC47:=hC46.h6
   exact Ay (l':=[(2,v1),(3,v2),(4,(ptr b1 0)),(5,(ptr b2 0)),(6,(I x28.1))]) ⟨z,z,z,z,z,Am⟩<|⟨x28.2.2.1,x28.2.2.2,x13,v12,x14,x15,x16,v4,x2.2.2.1.1,x2.2.2.1.2,v1,x2.1,v2,x2.2.1,x28.1,z,z,hC47⟩
  intro g' hg'
  obtain rfl:g'=4:=hg'
  intro w25 hB14
  refine Au z z z ?_
  rintro _ _ ⟨rfl,rfl⟩
  refine Bn fun hn9 hb9=>have hC38:=hC37.grow hB14;BY (i:=3) (j:=8) (by kernel_rfl) z z ?_ ?_
  ·refine Ar [(I x13),v12,(I x15),(I x16)] hC38 1 z z z Bg A5 z z<|Ab<|oe 8 z<|Al (cs':=[v4,(I x2.2.2.1.2)]) (new:=[v4,(I x2.2.2.1.2)]) hC38 8 z z (fac (AP (hC38.ro 4 z))<|fac z<|fa0) z Aw z z fun w26 hC39 hKp5=>?_
   try dsimp only [List.set] at hC39
   refine Ab<|oe 9 z<|Al (cs':=[(I x13),v12,(I x15),(I x16)]) (new:=[(I x13),v12,(I x15),(I x16)]) hC39 7 z z (fac z<|fac (AP (hC39.ro 2 z))<|fac z<|fac z<|fa0) z A5 z z fun w27 hC40 hKp6=>?_
   try dsimp only [List.set] at hC40
   refine Ab<|ta 10 z z z<|dn<|?_
   obtain rfl:=Aa hr9
   have hC41:=hC40.f8
   have hC42:=hC41.f8
   have hC43:=hC42.f4
   have hC44:=hC43.f6
   have hC45:=hC44.f7
   have hC46:=hC45.f8
   have hC47:=hC46.h6
   exact Ay (l':=[(2,v1),(3,v2),(4,(ptr b1 0)),(5,(ptr b2 0)),(6,(I x28.1))]) ⟨z,z,z,z,z,Am⟩<|⟨x28.2.2.1,x28.2.2.2,x13,v12,x14,x15,x16,v4,x2.2.2.1.1,x2.2.2.1.2,v1,x2.1,v2,x2.2.1,x28.1,z,z,hC47⟩
  refine Al (cs':=[v4,(I x2.2.2.1.2)]) (new:=[v4,(I x2.2.2.1.2)]) hC38 8 z z (fac (AP (hC38.ro 4 z))<|fac z<|fa0) z Aw z z (fun w26 hC39 hKp5=>?_)
  try dsimp only [List.set] at hC39
  refine Ab<|oe 3 z<|Ar [(I x13),v12,(I x15),(I x16)] hC39 1 z z z Bg A5 z z<|Ab<|oe 9 z<|Al (cs':=[(I x13),v12,(I x15),(I x16)]) (new:=[(I x13),v12,(I x15),(I x16)]) hC39 7 z z (fac z<|fac (AP (hC39.ro 2 z))<|fac z<|fac z<|fa0) z A5 z z fun w27 hC40 hKp6=>?_
  try dsimp only [List.set] at hC40
  refine Ab<|ta 10 z z z<|dn<|?_
  obtain rfl:=Aa hr9
  have hC41:=hC40.f8
  have hC42:=hC41.f8
  have hC43:=hC42.f4
  have hC44:=hC43.f6
  have hC45:=hC44.f7
  have hC46:=hC45.f8
  have hC47:=hC46.h6
  exact Ay (l':=[(2,v1),(3,v2),(4,(ptr b1 0)),(5,(ptr b2 0)),(6,(I x28.1))]) ⟨z,z,z,z,z,Am⟩<|⟨x28.2.2.1,x28.2.2.2,x13,v12,x14,x15,x16,v4,x2.2.2.1.1,x2.2.2.1.2,v1,x2.1,v2,x2.2.1,x28.1,z,z,hC47⟩
 rintro _ w21 ⟨x17,x18,x19,v13,x20,x21,x22,v14,x23,x24,v15,x25,v16,x26,x27,rfl,rfl,hC35⟩
 try dsimp only at hF
 refine AL ?_
 obtain rfl:=Aa hF
 refine fn_retG5 z (rv_tmp z) (rv_tmp z) (rv_cell_agg (cs':=[v14,(I x24)]) hC35 (i:=5) z z z A9 Aw z) (rv_cell_agg (cs':=[(I x19),v13,(I x21),(I x22)]) hC35 (i:=4) z z z Bg A5 z) (rv_tmp z)<|have hC49:=hC35.f3;?_
 have hC48:=BW x19 v13 x20 x21 x22 hC49
 have hC51:=hC48.f3
 have hC50:=Cl v14 x23 x24 hC51
 have hC52:=hC50.f2
 have hC53:=hC52.f3
 have hC54:=hC53.h4
 exact ⟨_,z,_,_,_,_,z,hC54⟩
theorem c_M_copyCursor {w0:World} (a1:((Int × (List Int)) × Int × Int)) (u1:Value) (g1:RO [] w0 u1 a1.1.2) (rr:((Int × (List Int)) × Int × Int)) (hF:M.copyCursor a1=some rr) :
 Calls Tryz.prog 56 [(.agg #[(I a1.1.1),u1,(I a1.2.1),(I a1.2.2)])].toArray w0 fun e w'=>∃v,e=.returned v∧Res w0 rr v w':=by
 refine A4 Tryz.func56 z z ?_
 have hC0:=AD w0
 unfold M.copyCursor at hF
 refine Ad<|B0 (cs:=[(I a1.1.1),u1,(I a1.2.1),(I a1.2.2)]) hC0 z z z fun b1 w1 hC1 hB1 hN1=>AW hC1 zero49 z z fun b2 w2 hC2 hB2 hN2=>Ab<|Ad<|fd AZ Ba z z z z<|Ar [(I a1.1.1),u1] hC2 1 z z z B8 Ba z z<|be hF fun x1 hr1 hF=>A8 Tryz.call51 z z (c_M_copyAccess (a1.1.1,a1.1.2) u1 (g1.now hC2.keep) x1 hr1)<|?_
 rintro v1 w3 ⟨hB3,F1,hv1,hn1,hb1⟩
 have hC3:=hC2.push hB3 (A:=Ae v1 x1) hv1 hn1 hb1
 obtain ⟨v2,rfl,hC4⟩:=st45_own hC3
 refine fd AZ Ba z z z z<|Al (cs':=[(I x1.1),v2,(I a1.2.1),(I a1.2.2)]) (new:=[(I x1.1),v2]) hC4 2 z z (fac z<|fac (AP (hC4.ro 0 z))<|fa0) z Ba z z fun w4 hC5 hKp1=>?_
 try dsimp only [List.set] at hC5
 have hk1:=Ak (((Ao hB1).then hB2).then hB3) hN1 hKp1
 refine Ab<|Ad<|Ar [(I x1.1),v2,(I a1.2.1),(I a1.2.2)] hC5 2 z z z Bg A5 z z<|Al (cs':=[(I x1.1),v2,(I a1.2.1),(I a1.2.2)]) (new:=[(I x1.1),v2,(I a1.2.1),(I a1.2.2)]) hC5 1 z z (fac z<|fac (AP (hC5.ro 0 z))<|fac z<|fac z<|fa0) z A5 z z fun w5 hC6 hKp2=>?_
 try dsimp only [List.set] at hC6
 have hk2:=Ak hk1 (Ai (Ao hB1).size hN2) hKp2
 refine Ab (AL ?_)
 obtain rfl:=Aa hF
 refine BM z (rv_cell_agg (cs':=[(I x1.1),v2,(I a1.2.1),(I a1.2.2)]) hC6 (i:=1) z z z Bg A5 z) ?_
 have hC7:=BW x1.1 v2 x1.2 a1.2.1 a1.2.2 hC6
 exact ⟨_,z,Cd hC7 0 z⟩
theorem c_M_isPage {w0:World} (a1:Int) (rr:Bool) (hF:M.isPage a1=some rr) :
 Calls Tryz.prog 57 [(I a1)].toArray w0 fun e w'=>∃v,e=.returned v∧Res w0 rr v w':=by
 refine A4 Tryz.func57 z z ?_
 have hC0:=AD w0
 unfold M.isPage at hF
 refine Ad<|Ag z z<|Ab<|Ad<|Af z z<|be hF fun x1 hr1 hF=>cb BR z z (c_M_within a1 1 9 x1 hr1) fun w1 hB1=>have hC1:=hC0.grow hB1;Ag z z<|Ab<|AL<|?_
 obtain rfl:=Aa hF
 exact AE z z<|⟨_,z,Bh hC1 _⟩
theorem c_M_matches_c1 {w0:World} (a1:(Int × (List Int))) (u1:Value) (g1:RO [] w0 u1 a1.2) (pb1:Nat) (ax1:(Int × (List Int) × Int × Int × Int)) (g2:ROAt [] w0 pb1 0 ax1) (pb2:Nat) (ax2:(Int × (List Int))) (g3:ROAt [] w0 pb2 0 ax2) (rr:Bool) (hF:M.matches_c1 a1 ax1 ax2=some rr) :
 Calls Tryz.prog 85 [(.agg #[(I a1.1),u1]),(ptr pb1 0),(ptr pb2 0)].toArray w0 fun e w'=>∃v,e=.returned v∧Res w0 rr v w':=by
 refine A4 Tryz.func85 z z ?_
 have hC0:=AD w0
 unfold M.matches_c1 at hF
 refine Ad<|B0 (cs:=[(I a1.1),u1]) hC0 z z z fun b1 w1 hC1 hB1 hN1=>Ag z z<|Ab<|AC<|Ad<|fd A3 Az z z z z<|At hC1 0 z z AA z z<|fd AO Az z z z z<|Bf ty3 g2.fst hC1.keep z z fun v1 h1=>?_
 obtain rfl:=BG h1
 refine Cp z z z<|Ab<|AN z (fun hc1=>?_) (fun hc1=>?_)
 ·replace hF:=AF hF hc1
  refine Ad<|Ag z z<|Ab<|AL<|A7<|?_
  obtain rfl:=Aa hF
  exact AE z z<|⟨_,z,Bh hC1 _⟩
 replace hF:=AG hF hc1
 refine AR<|Ax<|AC<|Ad<|fd AO A2 z z z z<|Bf ty24 g2.snd.fst hC1.keep z z fun v2 h2=>Bo Ap h2 z z<|Af z z<|Ab<|be hF fun r1 hr1 hF=>Bv (fun l w=>.inl ()=r1∧l=[]∧Below w1.heap.size w1 w∧Ctx [] w0 w []) ?_ ?_
 ·refine Bb<|wS (l':=[(2,(ptr pb2 0)),(3,(ptr b1 0)),(13,v2),(14,(I (List.length ax1.2.1:Int))),(15,(I 0))]) ⟨z,z,z,z,z,Am⟩<|BC (fun k l w=>∃x1:Int,l=[(2,(ptr pb2 0)),(3,(ptr b1 0)),(13,v2),(14,(I (List.length ax1.2.1:Int))),(15,(I x1))]∧Below w1.heap.size w1 w∧Ctx [] w0 w [Ac b1 [(I a1.1),u1]]∧M.matches_c1_l1 ax1 a1 ax2 k x1=some r1) FUEL ⟨0,z,(Aq _ _),hC1,hr1⟩<|?_
  clear hr1
  rintro k1 _ w2 ⟨x1,rfl,hB2,hC2,hL1⟩
  cases k1 with
  | zero=>rw [M.matches_c1_l1] at hL1; cases hL1
  | succ k1 =>
   rw [M.matches_c1_l1] at hL1
   refine Ad<|B6 z z z<|Ab<|AC<|AN z (fun hc2=>?_) (fun hc2=>?_)
   ·replace hL1:=AF hL1 hc2
    refine AR<|Ax<|AC<|Bb<|Ad<|Af z z<|be hL1 fun x2 hx1 hL1=>Bc Ap ty3 h2 hx1 z z z fun b2 o1 h3=>Bf ty3 h3 hC2.keep z z fun v3 h4=>?_
    obtain rfl:=BG h4
    refine Ag z z<|Ag z z<|Ab<|AC<|W_drawn 11 z hmix fun w3 hB3=>have hC3:=hC2.grow hB3;tf 0 A3 A2 z z z z z<|tm 2 z z z<|tf 5 AQ A2 z z z z z<|tm 7 z z z<|be hL1 fun x3 hx2 hL1=>be hL1 fun x4 hx3 hL1=>wAS (l':=[(2,(ptr pb2 0)),(3,(ptr b1 0)),(5,(I x1)),(6,(I x2)),(13,v2),(14,(I (List.length ax1.2.1:Int))),(15,(I x1)),(16,(.bool (decide (x1 < (List.length ax1.2.1:Int))))),(17,(I x1)),(18,(ptr b2 o1)),(19,(I x2)),(20,(ptr b1 1)),(22,(I x2)),(25,(ptr pb2 (0+1))),(27,(I x1))]) ⟨z,z,z,z,z,z,z,z,z,z,z,z,z,z,z,Am⟩<|Bm [⟨1,[],fun vs=>AU u1,[]⟩,⟨3,[],fun vs=>Ce [] w0 x3,[]⟩,⟨4,[],fun vs=>AU (I x3),[]⟩,⟨6,[],fun vs=>Cw [] w0 ax2.2,[]⟩,⟨8,[],fun vs=>Ce [] w0 x4,[]⟩,⟨9,[],fun vs=>AU (I x4),[]⟩] [[],[1],[3],[],[6],[8]] 1 z (by kernel_rfl) (by kernel_rfl) z ?_ ?_
    ·refine An z ?_ ?_
     ·intro w4 hB4
      refine Av<|⟨_,z,?_⟩
      exact At (hC3.grow hB4) 0 z z AT z z<|Ab<|A0 (Aq _ _) z z ⟨z,z⟩
     refine An z ?_ ?_
     ·intro w4 hB4
      refine A6 z z z ?_
      rintro _ _ ⟨rfl,rfl⟩ _
      refine Av<|⟨_,z,?_⟩
      exact Bc Ap ty3 g1 hx2 z z z fun b3 o2 h5=>Ab<|A0 (Aq _ _) z z ⟨z,_,_,z,h5⟩
     refine An z ?_ ?_
     ·intro w4 hB4
      refine A6 z z z ?_
      rintro _ _ ⟨rfl,b3,o2,rfl,h5⟩ _
      refine Av<|⟨_,z,?_⟩
      refine Bf ty3 h5 (hC3.keep.then hB4) z z (fun v4 h6=>?_)
      obtain rfl:=BG h6
      exact Ab<|A0 (Aq _ _) z z ⟨z,z⟩
     refine An z ?_ ?_
     ·intro w4 hB4
      refine Av<|⟨_,z,?_⟩
      exact Bf ty24 g3.snd (hC3.keep.then hB4) z z fun v5 h7=>Ab<|A0 (Aq _ _) z z ⟨z,h7⟩
     refine An z ?_ ?_
     ·intro w4 hB4
      refine A6 z z z ?_
      rintro v5 _ ⟨rfl,h7⟩ _
      refine Av<|⟨_,z,?_⟩
      exact Bc Ap ty3 h7 hx3 z z z fun b4 o3 h8=>Ab<|A0 (Aq _ _) z z ⟨z,_,_,z,h8⟩
     refine An z ?_ ?_
     ·intro w4 hB4
      refine A6 z z z ?_
      rintro _ _ ⟨rfl,b4,o3,rfl,h8⟩ _
      refine Av<|⟨_,z,?_⟩
      refine Bf ty3 h8 (hC3.keep.then hB4) z z (fun v6 h9=>?_)
      obtain rfl:=BG h9
      exact Ab<|A0 (Aq _ _) z z ⟨z,z⟩
     exact Bd
    intro w5 hB5
    refine Au z z z ?_
    rintro _ _ ⟨rfl,rfl⟩
    refine Au z z z ?_
    rintro _ _ ⟨rfl,b3,o2,rfl,h5⟩
    refine Au z z z ?_
    rintro _ _ ⟨rfl,rfl⟩
    refine Au z z z ?_
    rintro v5 _ ⟨rfl,h7⟩
    refine Au z z z ?_
    rintro _ _ ⟨rfl,b4,o3,rfl,h8⟩
    refine Au z z z ?_
    rintro _ _ ⟨rfl,rfl⟩
    refine Bn fun hn1 hb1=>have hC4:=hC3.grow hB5;tk 10 z z (CT z z)<|Cp z z z<|Ab<|dn<|Ax<|AN z (fun hc3=>?_) (fun hc3=>?_)
    ·replace hL1:=AF hL1 hc3
     refine Ad<|Ag z z<|Ab<|AL<|Bz<|A7<|A7<|Bz<|A7<|A7<|?_
     obtain rfl:=Aa hL1
     dsimp only at hF
     obtain rfl:=Aa hF
     exact AE z z<|⟨_,z,Bh hC4 _⟩
    replace hL1:=AG hL1 hc3
    exact AR<|Bi<|Ax<|Bt<|By z z z<|Af z z<|Ab<|Ay (l':=[(2,(ptr pb2 0)),(3,(ptr b1 0)),(13,v2),(14,(I (List.length ax1.2.1:Int))),(15,(I (w64 (x1+1))))]) ⟨z,z,z,z,z,Am⟩<|⟨k1,AS _,w64 (x1+1),z,(((Ao hB2).then hB3).then hB5).below,hC4,hL1⟩
   replace hL1:=AG hL1 hc2
   refine BD (AY (AY (B1 ?_)))
   obtain rfl:=Aa hL1
   have hC5:=hC2.h0
   exact Ay (l':=[]) Am<|⟨z,z,(Ao hB2).below,hC5⟩
 rintro l2 _ w6 hs2 ⟨rfl,rfl,hB6,hC6⟩
 try dsimp only at hF
 refine Bj hs2 ?_
 clear hs2
 refine Ad<|Ag z z<|Ab<|AL<|?_
 obtain rfl:=Aa hF
 exact AE z z<|⟨_,z,Bh hC6 _⟩
theorem c_Slices_IndexFunc_Limpl_Fact_impl_Fact_M_matches_c1 {w0:World} (a1:(List (Int × (List Int)))) (u1:Value) (g1:RO [] w0 u1 a1) (pb1:Nat) (ax1:(Int × (List Int) × Int × Int × Int)) (g2:ROAt [] w0 pb1 0 ax1) (pb2:Nat) (ax2:(Int × (List Int))) (g3:ROAt [] w0 pb2 0 ax2) (rr:Int) (hF:Slices.IndexFunc_Limpl_Fact_impl_Fact_M_matches_c1 a1 ax1 ax2=some rr) :
 Calls Tryz.prog 72 [u1,(.func (.func 85) #[] #[(ptr pb1 0),(ptr pb2 0)])].toArray w0 fun e w'=>∃v,e=.returned v∧Res w0 rr v w':=by
 refine A4 CO z z ?_
 have hC0:=AD w0
 unfold Slices.IndexFunc_Limpl_Fact_impl_Fact_M_matches_c1 at hF
 refine Ad<|Ag z z<|Ab<|AC<|Ad<|Af z z<|Bo Ah g1 z z<|Af z z<|Ab<|be hF fun r1 hr1 hF=>Bv (fun l w=>.inl ()=r1∧l=[]∧Below w0.heap.size w0 w∧Ctx [] w0 w []) ?_ ?_
 ·refine Bb<|wS (l':=[(0,u1),(1,(.func (.func 85) #[] #[(ptr pb1 0),(ptr pb2 0)])),(7,(I (List.length a1:Int))),(8,(I 0))]) ⟨z,z,z,z,Am⟩<|BC (fun k l w=>∃x1:Int,l=[(0,u1),(1,(.func (.func 85) #[] #[(ptr pb1 0),(ptr pb2 0)])),(7,(I (List.length a1:Int))),(8,(I x1))]∧Below w0.heap.size w0 w∧Ctx [] w0 w []∧Slices.IndexFunc_Limpl_Fact_impl_Fact_M_matches_c1_l1 a1 ax1 ax2 k x1=some r1) FUEL ⟨0,z,(Aq _ _),hC0,hr1⟩<|?_
  clear hr1
  rintro k1 _ w1 ⟨x1,rfl,hB1,hC1,hL1⟩
  cases k1 with
  | zero=>rw [Slices.IndexFunc_Limpl_Fact_impl_Fact_M_matches_c1_l1] at hL1; cases hL1
  | succ k1 =>
   rw [Slices.IndexFunc_Limpl_Fact_impl_Fact_M_matches_c1_l1] at hL1
   refine Ad<|B6 z z z<|Ab<|AC<|AN z (fun hc1=>?_) (fun hc1=>?_)
   ·replace hL1:=AF hL1 hc1
    refine AR<|Ax<|AC<|Bb<|Ad<|Af z z<|Ag z z<|Ab<|Ad<|Af z z<|Af z z<|Af z z<|be hL1 fun x2 hx1 hL1=>Bc Ah ty29 g1 hx1 z z z fun b1 o1 h1=>Bf ty29 h1 hC1.keep z z fun v1 h2=>?_
    obtain ⟨v2,rfl,h3⟩:=BJ h2
    refine be hL1 fun x3 hr2 hL1=>Cu (cap:=[(ptr pb1 0),(ptr pb2 0)]) Tryz.call85 z z z (c_M_matches_c1 x2 v2 (h3.now hC1.keep) pb1 ax1 (g2.now hC1.keep) pb2 ax2 (g3.now hC1.keep) x3 hr2) fun _ w2 hv1=>?_
    obtain ⟨rfl,hB2⟩:=Cv hv1
    have hC2:=hC1.grow hB2
    refine Ab<|AN z (fun hc2=>?_) (fun hc2=>?_)
    ·replace hL1:=AF hL1 hc2
     refine Ad<|Af z z<|Ag z z<|Ab<|AL<|Bz<|A7<|A7<|Bz<|A7<|A7<|?_
     obtain rfl:=Aa hL1
     dsimp only at hF
     obtain rfl:=Aa hF
     exact AE z z<|⟨_,z,B7 hC2 _⟩
    replace hL1:=AG hL1 hc2
    exact AR<|Bi<|Ax<|Bt<|By z z z<|Af z z<|Ab<|Ay (l':=[(0,u1),(1,(.func (.func 85) #[] #[(ptr pb1 0),(ptr pb2 0)])),(7,(I (List.length a1:Int))),(8,(I (w64 (x1+1))))]) ⟨z,z,z,z,Am⟩<|⟨k1,AS _,w64 (x1+1),z,((Ao hB1).then hB2).below,hC2,hL1⟩
   replace hL1:=AG hL1 hc1
   refine BD (AY (AY (B1 ?_)))
   obtain rfl:=Aa hL1
   exact Ay (l':=[]) Am<|⟨z,z,(Ao hB1).below,hC1⟩
 rintro l2 _ w3 hs2 ⟨rfl,rfl,hB3,hC3⟩
 try dsimp only at hF
 refine Bj hs2 ?_
 clear hs2
 refine Ad<|Ag z z<|Ab<|AL<|?_
 obtain rfl:=Aa hF
 exact AE z z<|⟨_,z,B7 hC3 _⟩
theorem c_Slices_DeleteFunc_Limpl_Fact_impl_Fact_M_matches_c1 {Fs:List (List Nat)} {w0:World} (a1:(List (Int × (List Int)))) (u1:Value) (pb1:Nat) (ax1:(Int × (List Int) × Int × Int × Int)) (g1:ROAt Fs.flatten w0 pb1 0 ax1) (pb2:Nat) (ax2:(Int × (List Int))) (g2:ROAt Fs.flatten w0 pb2 0 ax2) (hH:Hold [Ae u1 (a1:(List (Int × (List Int))))] w0 Fs) (hn:Fs.flatten.Nodup) (rr:(List (Int × (List Int)))) (hF:Slices.DeleteFunc_Limpl_Fact_impl_Fact_M_matches_c1 a1 ax1 ax2=some rr) :
 Calls Tryz.prog 36 [u1,(.func (.func 85) #[] #[(ptr pb1 0),(ptr pb2 0)])].toArray w0 fun e w'=>∃v,e=.returned v∧∃q0:Value,v=q0∧Ctx Fs.flatten w0 w' [Ae q0 (rr:(List (Int × (List Int))))]:=by
 refine A4 Tryz.func36 z z ?_
 have hC0:=B4 hH hn
 unfold Slices.DeleteFunc_Limpl_Fact_impl_Fact_M_matches_c1 at hF
 refine be hF fun x hx hF=>Ad<|Ag z z<|Ab<|Ad<|Af z z<|Af z z<|ci CP z z (c_Slices_IndexFunc_Limpl_Fact_impl_Fact_M_matches_c1 a1 u1 (hC0.ro 0 z) pb1 ax1 (g1.now (Be _ _)) pb2 ax2 (g2.now (Be _ _)) x hx) fun w1 hB1=>have hC1:=hC0.grow hB1;Ag z z<|Ab<|AC<|Ad<|Af z z<|BO z z z<|?_
 by_cases hx1:x=-1
 ·rw [if_pos hx1] at hF
  obtain rfl:=Aa hF
  rw [decide_eq_true hx1]
  exact Ab<|CB z<|Ad<|Af z z<|Ag z z<|Ab<|AL<|A7<|AE z z<|⟨_,z,_,z,hC1⟩
 rw [if_neg hx1] at hF
 have hr:0 ≤ x∧x < (a1.length:Int):=Classical.byContradiction fun h=>by rw [if_neg h] at hF; cases hF
 rw [if_pos hr] at hF
 obtain ⟨m,rfl⟩:∃m:Nat,x=m:=⟨x.toNat,by omega⟩
 have hm:m < a1.length:=by omega
 have hlim:=(hC0.ro 0 z).lt
 simp only [maxLen] at hlim
 rw [Int.toNat_natCast] at hF
 rw [decide_eq_false hx1]
 refine Ab<|CC z<|AR<|Ax<|AC<|Ad<|Af z z<|By z z z<|?_
 rw [show w64 ((m:Int)+1)=((m+1:Nat):Int) by rw [w64_id (by omega) (by omega)]; omega]
 refine Ag z z<|Ab<|?_
 obtain ⟨b,c,rfl,hc1,hc2,hD0⟩:=hC1.del_open hm
 have hml:(a1.take m).length=m:=by rw [List.length_take]; omega
 refine Bv (fun l w=>∃kept:List (Int × (List Int)),∃g:Nat,l=[(0,.slice (some ⟨b,0,none⟩) a1.length c),(5,.int .i64 (kept.length:Int))]∧0 < g∧kept.length+g=a1.length∧kept=rr∧Ctx Fs.flatten w0 w [Item.del b c kept g ([]:List (Int × (List Int)))]) ?_ ?_
 ·refine Bb<|wS (l':=[(0,.slice (some ⟨b,0,none⟩) a1.length c),(1,(.func (.func 85) #[] #[(ptr pb1 0),(ptr pb2 0)])),(5,.int .i64 (m:Int)),(6,.int .i64 ((m+1:Nat):Int))]) ⟨z,z,z,z,Am⟩<|BC (fun k l w=>∃kept:List (Int × (List Int)),∃g:Nat,∃rest:List (Int × (List Int)),l=[(0,.slice (some ⟨b,0,none⟩) a1.length c),(1,(.func (.func 85) #[] #[(ptr pb1 0),(ptr pb2 0)])),(5,.int .i64 (kept.length:Int)),(6,.int .i64 ((kept.length+g:Nat):Int))]∧0 < g∧kept.length+g+rest.length=a1.length∧dfl (fun e=>M.matches_c1 e ax1 ax2) kept rest=some rr∧k=rest.length∧Ctx Fs.flatten w0 w [Item.del b c kept g rest]) (a1.drop (m+1)).length ⟨a1.take m,1,a1.drop (m+1),by rw [hml],by omega,by rw [hml,List.length_drop]; omega,hF,z,hD0⟩<|?_
  clear hF hD0
  rintro k1 _ w2 ⟨kept,g,rest,rfl,hg,hlen,hL,hk,hD⟩
  refine AC<|Ad<|Af z z<|Af z z<|WL_len_raw Ah z z<|B6 z z z<|?_
  cases rest with
  | nil =>
   have hq:=Aa hL
   simp only [List.length_nil,Nat.add_zero] at hlen
   rw [decide_eq_false (show ¬ ((kept.length+g:Nat):Int) < (a1.length:Int) by omega)]
   exact Ab<|CC z<|BD<|AY<|AY<|B1<|Ay (l':=[(0,.slice (some ⟨b,0,none⟩) a1.length c),(5,.int .i64 (kept.length:Int))]) ⟨z,z,Am⟩<|⟨kept,g,z,hg,hlen,hq,hD⟩
  | cons x rest =>
   simp only [List.length_cons] at hlen hk
   rw [decide_eq_true (show ((kept.length+g:Nat):Int) < (a1.length:Int) by omega)]
   refine Ab<|CB z<|AR<|Ax<|AC<|Bb<|Ad<|Af z z<|Af z z<|CI Ah ty29 (show kept.length+g < a1.length by omega) z z z<|?_
   obtain ⟨cs,hcs,hD1⟩:=hD.del_head
   obtain ⟨hro,row,T,hh,hrow⟩:=hD1.delh_row
   refine WL_load_raw ty29 hh (by rw [Nat.zero_add]; exact hrow) hcs z z ?_
   obtain ⟨e1,hce,_⟩:=BJ hro
   obtain rfl:=cells_of_agg (cs':=[(I x.1),e1]) hce
   rw [show mkv (Rep.agg (Int × (List Int))) [(I x.1),e1]=(.agg #[(I x.1),e1]) from z]
   refine CV hD1 zero29 z z (fun b7 w3 hD2 hB2=>?_)
   have phr:=hD2.delh_ro (α:=(Int × (List Int))) 1 z
   obtain ⟨pf0,phe,pg0⟩:=BJ phr
   replace phe:=cells_of_agg (cs:=[(I x.1),e1]) (cs':=[(I x.1),pf0]) phe
   simp only [List.cons.injEq,and_true,true_and] at phe
   obtain rfl:=phe
   refine WL_store_box_agg (cs':=[(I x.1),e1]) (new:=[(I x.1),e1]) hD2 0 z z (fac z<|fac (AP pg0)<|fa0) z AI z z (fun w4 hD3=>?_)
   try dsimp only [List.set] at hD3
   refine Ab<|Ad<|Af z z<|Ar [(I x.1),e1] hD3 0 z z z Bu AI z z<|?_
   have qhr:=hD3.delh_ro (α:=(Int × (List Int))) 1 z
   obtain ⟨qf0,qhe,qg0⟩:=BJ qhr
   replace qhe:=cells_of_agg (cs:=[(I x.1),e1]) (cs':=[(I x.1),qf0]) qhe
   simp only [List.cons.injEq,and_true,true_and] at qhe
   obtain rfl:=qhe
   obtain ⟨q,hq,hL⟩:=Cz (show (M.matches_c1 x ax1 ax2).bind (fun b=>dfl (fun e=>M.matches_c1 e ax1 ax2) (if b then kept else kept ++ [x]) rest)=some rr from hL)
   refine Cu (cap:=[(ptr pb1 0),(ptr pb2 0)]) Tryz.call85 z z z (c_M_matches_c1 x e1 qg0 pb1 ax1 (g1.now hD3.keep) pb2 ax2 (g2.now hD3.keep) q hq) ?_
   intro _ w5 hv2
   obtain ⟨rfl,hB5⟩:=Cv hv2
   have hD4:=hD3.grow hB5
   refine B2 z z<|Ab<|AN z (fun hq1=>?_) (fun hq1=>?_)
   ·have hqf:q=false:=by simpa using hq1
    rw [hqf] at hL
    rw [if_neg (by simp)] at hL
    refine Ad<|Af z z<|Af z z<|Ar [(I x.1),e1] hD4 0 z z z Bu AI z z<|CI Ah ty29 (show kept.length < a1.length by omega) z z z<|WL_store_del hD4.swap hg ty29 z z z fun w6 hD5=>Ab<|Bt<|Af z z<|By z z z<|?_
    rw [show w64 ((kept.length:Int)+1)=((kept ++ [x]).length:Int) by rw [w64_id (by omega) (by omega),List.length_append]; rfl]
    refine Ag z z<|Ab<|Bi<|Ax<|Bt<|Af z z<|By z z z<|?_
    rw [show w64 (((kept.length+g:Nat):Int)+1)=(((kept ++ [x]).length+g:Nat):Int) by rw [w64_id (by omega) (by omega),List.length_append]; simp only [List.length_cons,List.length_nil]; omega]
    exact Ag z z<|Ab<|Ay (l':=[(0,.slice (some ⟨b,0,none⟩) a1.length c),(1,(.func (.func 85) #[] #[(ptr pb1 0),(ptr pb2 0)])),(5,.int .i64 ((kept ++ [x]).length:Int)),(6,.int .i64 (((kept ++ [x]).length+g:Nat):Int))]) ⟨z,z,z,z,Am⟩<|⟨rest.length,by omega,kept ++ [x],g,rest,z,hg,by rw [List.length_append]; simp only [List.length_cons,List.length_nil]; omega,hL,z,hD5.headN 1⟩
   have hqt:q=true:=by simpa using hq1
   rw [hqt] at hL
   rw [if_pos z] at hL
   refine AR<|Bi<|Ax<|Bt<|Af z z<|By z z z<|?_
   rw [show w64 (((kept.length+g:Nat):Int)+1)=((kept.length+(g+1):Nat):Int) by rw [w64_id (by omega) (by omega)]; omega]
   refine Ag z z<|Ab<|Ay (l':=[(0,.slice (some ⟨b,0,none⟩) a1.length c),(1,(.func (.func 85) #[] #[(ptr pb1 0),(ptr pb2 0)])),(5,.int .i64 (kept.length:Int)),(6,.int .i64 ((kept.length+(g+1):Nat):Int))]) ⟨z,z,z,z,Am⟩<|?_
   have hD5:=(hD4.swap.headN 1).del_skip
   exact ⟨rest.length,by omega,kept,g+1,rest,z,by omega,by omega,hL,z,hD5⟩
 rintro l2 _ w8 hs2 ⟨kept,g,rfl,hg,hlen,rfl,hD⟩
 refine Bj hs2 ?_
 clear hs2
 exact Ad<|Af z z<|Af z z<|CF Ah ty29 (show kept.length < c by omega) (show kept.length ≤ a1.length by omega) hc1 z z z<|WL_clear_del hD Ah ty29 zc29 (fac z<|fac z<|fa0) hlen.symm z hg fun w9 hD9=>Ab<|Ad<|Af z z<|Af z z<|WL_sl_h Ah ty29 (hi:=kept.length) (by omega) (by omega) z z z<|Ag z z<|Ab<|AL<|AE z z<|⟨_,z,_,z,hD9⟩
theorem c_M_matches {w0:World} (a1:(List (Int × (List Int) × Int × Int × Int))) (u1:Value) (g1:RO [] w0 u1 a1) (a2:(List (Int × (List Int)))) (u2:Value) (g2:RO [] w0 u2 a2) (a3:(Int × (List Int))) (u3:Value) (g3:RO [] w0 u3 a3.2) (rr:(List (Int × (List Int)))) (hF:M.matches a1 a2 a3=some rr) :
 Calls Tryz.prog 58 [u1,u2,(.agg #[(I a3.1),u3])].toArray w0 fun e w'=>∃v,e=.returned v∧Res w0 rr v w':=by
 refine A4 Tryz.func58 z z ?_
 have hC0:=AD w0
 unfold M.matches at hF
 refine Ad<|B0 (cs:=[(I a3.1),u3]) hC0 z z z fun b1 w1 hC1 hB1 hN1=>Ag z z<|Ab<|Ad<|Af z z<|fd AQ Az z z z z<|At hC1 0 z z AA z z<|be hF fun x1 hx1 hF=>Bc Bl ty93 g1 hx1 z z z fun b2 o1 h1=>Bf ty93 h1 hC1.keep z z fun v1 h2=>?_
 obtain ⟨v2,rfl,h3⟩:=CX h2
 refine AW hC1 zero93 z z fun b3 w2 hC2 hB2 hN2=>Al (cs':=[(I x1.1),v2,(I x1.2.2.1),(I x1.2.2.2.1),(I x1.2.2.2.2)]) (new:=[(I x1.1),v2,(I x1.2.2.1),(I x1.2.2.2.1),(I x1.2.2.2.2)]) hC2 0 z z (fac z<|fac (AP h3)<|fac z<|fac z<|fac z<|fa0) z BA z z fun w3 hC3 hKp1=>?_
 try dsimp only [List.set] at hC3
 have hk1:=Ak ((Ao hB1).then hB2) (Ai (Ao hB1).size hN2) hKp1
 have hk2:=Ak (Ao hB2) hN2 hKp1
 refine Ab<|Ad<|Af z z<|be hF fun x2 hr1 hF=>A8 Tryz.call67 z z (c_M_copyFacts a2 u2 (g2.now hC3.keep) x2 hr1)<|?_
 rintro v3 w4 ⟨hB3,F1,hv1,hn1,hb1⟩
 have hC4:=hC3.push hB3 (A:=Ae v3 x2) hv1 hn1 hb1
 refine C3 z z<|be hF fun x3 hr2 hF=>?_
 obtain ⟨Fs1,hH1,hn2,hF1,hO1,hX1,hb2⟩:=Ctx.lend3 (As:=[Ac b3 [(I x1.1),v2,(I x1.2.2.1),(I x1.2.2.2.1),(I x1.2.2.2.2)],Ac b1 [(I a3.1),u3]]) [Ae v3 (x2:(List (Int × (List Int))))] hC4
 refine A8 Tryz.call36 z z (c_Slices_DeleteFunc_Limpl_Fact_impl_Fact_M_matches_c1 x2 v3 b3 (x1.1,x1.2.1,x1.2.2.1,x1.2.2.2.1,x1.2.2.2.2) (roat_box (hX1 0 _ _ z) (repd_pair repd_int (repd_pair (repd_slice (AJ h3 hC4.keep hF1)) (repd_pair repd_int (repd_pair repd_int repd_int))))) b1 (a3.1,a3.2) (roat_box (hX1 1 _ _ z) (repd_pair repd_int (repd_slice (AJ g3 hC4.keep hF1)))) hH1 hn2 x3 hr2) ?_
 rintro v4 w5 ⟨_,rfl,hq1⟩
 have hC6:Ctx [] w0 w5 [Ae v4 (x3:(List (Int × (List Int)))),Ac b3 [(I x1.1),v2,(I x1.2.2.1),(I x1.2.2.2.1),(I x1.2.2.2.2)],Ac b1 [(I a3.1),u3]]:=hb2 _ _ hq1
 refine Ag z z<|Ab<|AL<|?_
 obtain rfl:=Aa hF
 exact AE z z<|⟨_,z,Cd hC6 0 z⟩
theorem c_M_PageAt {w0:World} (a1:(List (Int × (List Int)))) (u1:Value) (g1:RO [] w0 u1 a1) (a2:Int) (a3:Int) (rr:((List (Int × (List Int))) × Int × Bool)) (hF:M.PageAt a1 a2 a3=some rr) :
 Calls Tryz.prog 59 [u1,(I a2),(I a3)].toArray w0 fun e w'=>∃v,e=.returned v∧Res3 w0 rr.1 rr.2.1 rr.2.2 v w':=by
 refine A4 Tryz.func59 z z ?_
 have hC0:=AD w0
 unfold M.PageAt at hF
 refine Ad<|Ag z z<|Ag z z<|Ag z z<|Ab<|AC<|be hF fun r1 hr1 hF=>BP (fun l w=>∃x1:Bool,x1=r1∧l=[(0,u1),(1,(I a2)),(2,(I a3)),(19,(.bool x1))]∧Below w0.heap.size w0 w∧Ctx [] w0 w []) ?_ ?_
 ·refine Bt<|Af z z<|be hr1 fun x2 hr2 hr1=>cb Tryz.call57 z z (c_M_isPage a3 x2 hr2) fun w2 hB2=>have hC2:=hC0.grow hB2;B2 z z<|Af z z<|B3 (fun hc1=>?_) (fun hc1=>?_)
  ·replace hr1:=AF hr1 hc1
   refine gs z z z z<|gs z z z z<|gs z z z z<|gs z z z z<|gs z z z z<|AX z z z<|Ab<|?_
   obtain rfl:=Aa hr1
   exact Ay (l':=[(0,u1),(1,(I a2)),(2,(I a3)),(19,(.bool true))]) ⟨z,z,z,z,Am⟩<|⟨true,z,z,(Ao hB2).below,hC2⟩
  replace hr1:=AG hr1 hc1
  refine Aj z z<|Af z z<|Aj z z<|Af z z<|Aj z z<|Bo Ah g1 z z<|be hr1 fun x3 hr3 hr1=>Aj z z<|cb BR z z (c_M_within a2 0 (List.length a1:Int) x3 hr3) fun w3 hB3=>have hC3:=hC2.grow hB3;Aj z z<|B2 z z<|AH z z z<|Ab<|?_
  obtain rfl:=Aa hr1
  exact Ay (l':=[(0,u1),(1,(I a2)),(2,(I a3)),(19,(.bool (!x3)))]) ⟨z,z,z,z,Am⟩<|⟨(!x3),z,z,((Ao hB2).then hB3).below,hC3⟩
 rintro _ w1 ⟨x1,rfl,rfl,hB1,hC1⟩
 try dsimp only at hF
 refine AN z (fun hc2=>?_) (fun hc2=>?_)
 ·replace hF:=AF hF hc2
  refine Ad<|Ag z z<|Ag z z<|Ag z z<|Ab<|AL<|A7<|?_
  obtain rfl:=Aa hF
  refine fn_ret3 z z z z ?_
  have hC4:=hC1.triv (Ci (false))
  have hC5:=hC4.triv (Bp (0))
  have hC6:=hC5.triv (nil_val (α:=(Int × (List Int))))
  exact ⟨_,z,res3_of hC6⟩
 replace hF:=AG hF hc2
 refine AR<|Ax<|Ad<|Af z z<|Bo Ah g1 z z<|Af z z<|Af z z<|By z z z<|WL_min z z z<|Ag z z<|Ab<|Ad<|Af z z<|Af z z<|Af z z<|be hF fun x4 hx1 hF=>WL_slice_lh Ah ty29 g1 hx1 z z z z fun v1 h1=>be hF fun x5 hr4 hF=>A8 Tryz.call67 z z (c_M_copyFacts x4 v1 (h1.now hC1.keep) x5 hr4)<|?_
 rintro v2 w4 ⟨hB4,F1,hv3,hn1,hb1⟩
 have hC7:=hC1.push hB4 (A:=Ae v2 x5) hv3 hn1 hb1
 refine Af z z<|Ag z z<|Ag z z<|Ag z z<|Ab<|AL<|?_
 obtain rfl:=Aa hF
 refine fn_ret3 z z z z ?_
 have hC8:=hC7.triv (Ci (true))
 have hC9:=hC8.triv (Bp (if (w64 (a2+a3)) < (List.length a1:Int) then w64 (a2+a3) else (List.length a1:Int)))
 have hC10:=hC9.f2
 exact ⟨_,z,res3_of hC10⟩
end Go.Gx.Px
