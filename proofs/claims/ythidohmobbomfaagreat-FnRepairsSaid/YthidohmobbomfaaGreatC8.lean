/- The contracts of the Go functions against the pure functions, printed by program. Conditions: each says them. -/
import Derived.Test.YthidohmobbomfaaGreatC7
set_option linter.unusedVariables false
set_option linter.unusedSimpArgs false
set_option maxRecDepth 100000
set_option maxHeartbeats 4000000
namespace Go.Gx.Px
open Go.Proofs Go.RowKit
open K9
theorem c_S_IsAtom {w0:World} (a1:Ta) (u1:Value) (g1:RO [] w0 u1 a1) (a2:Tb) (u2:Value) (g2:RO [] w0 u2 a2.2) (rr:Bool) (hF:S.IsAtom a1 a2=some rr) :
 Calls Tryz.prog 126 [u1,(.agg #[(I a2.1),u2])].toArray w0 fun e w'=>∃v,e=.returned v∧Res w0 rr v w':=by
 refine Av Tryz.func126 z z ?_
 have hC0:=A3 w0
 unfold S.IsAtom at hF
 refine Ac<|Be (cs:=[(I a2.1),u2]) hC0 z z z fun b1 w1 hC1 hB1 hN1=>Af z z<|Aa<|A0<|be hF fun r1 hr1 hF=>B9 (fun l w=>∃x1:Bool,x1=r1∧l=[(3,(ptr b1 0)),(28,(.bool x1))]∧Below w1.heap.size w1 w∧Ctx [] w0 w [Ah b1 [(I a2.1),u2]]) ?_ ?_
 ·refine W_drawn 23 z hmix fun w3 hB3=>have hC3:=hC1.grow hB3;tm 0 z z z<|be hr1 fun x2 hr2 hr1=>oe 1 z<|cb Cf z z (c_S_IsSchema a1 u1 (g1.now hC3.keep) x2 hr2) fun w4 hB4=>have hC4:=hC3.grow hB4;Aa<|tk 2 z z (Cw z)<|Bv z z<|Aa<|tm 3 z z z<|BJ (fun hc1=>?_) (fun hc1=>?_)
  ·replace hr1:=Cm hr1 hc1
   exact sk 4 z z z z z<|sk 5 z z z z z<|sk 6 z z z z z<|sk 7 z z z z z<|sk 8 z z z z z<|sk 9 z z z z z<|sk 10 z z z z z<|tp 11 z z z z<|tm 12 z z z<|sk 13 z z z z z<|sk 14 z z z z z<|sk 15 z z z z z<|sk 16 z z z z z<|sk 17 z z z z z<|sk 18 z z z z z<|sk 19 z z z z z<|sk 20 z z z z z<|sk 21 z z z z z<|tp 22 z z z z<|dn<|nS<|⟨true,Ab hr1,z,((Ao hB3).then hB4).below,hC4⟩
  replace hr1:=Cn hr1 hc1
  refine tg 4 z z z z (BC AY z z (fun w=>⟨_,A7 w⟩) z)<|Ai z z<|fd AY A7 z z z z<|Aa<|tn 6 z z z z z<|tg 7 z z z z (fl_len Ag g1 z)<|Ai z z<|AH Ag g1 z z<|Aa<|tg 8 z z z z (CO z z)<|Ai z z<|Cb z z z<|Aa<|oe 5 z<|Ai z z<|Al hC4 0 z z AU z z<|Aa<|be hr1 fun x3 hr3 hr1=>oe 9 z<|Ai z z<|cb BH z z (c_S_l1In a2.1 0 (w64 ((List.length a1:Int) - 1)) x3 hr3) fun w5 hB5=>have hC5:=hC4.grow hB5;Aa<|tg 10 z z z z (Cw z)<|Ai z z<|Bv z z<|Aa<|tq 11 z z z z<|tm 12 z z z<|BJ (fun hc2=>?_) (fun hc2=>?_)
  ·replace hr1:=Cm hr1 hc2
   exact sk 13 z z z z z<|sk 14 z z z z z<|sk 15 z z z z z<|sk 16 z z z z z<|sk 17 z z z z z<|sk 18 z z z z z<|sk 19 z z z z z<|sk 20 z z z z z<|sk 21 z z z z z<|tp 22 z z z z<|dn<|nS<|⟨true,Ab hr1,z,(((Ao hB3).then hB4).then hB5).below,hC5⟩
  replace hr1:=Cn hr1 hc2
  refine tg 13 z z z z (BC AY z z (fun w=>⟨_,Aq w⟩) z)<|Ai z z<|fd AY Aq z z z z<|Aa<|tn 16 z z z z z<|tg 17 z z z z (BC AY z z (fun w=>⟨_,A7 w⟩) z)<|Ai z z<|fd AY A7 z z z z<|Aa<|be hr1 fun x4 hx1 hr1=>wAS (l':=[(0,u1),(1,(.agg #[(I a2.1),u2])),(3,(ptr b1 0)),(4,(.bool false)),(6,u1),(7,(.bool x2)),(8,(.bool (!x2))),(9,(.bool false)),(10,(ptr b1 0)),(11,(I a2.1)),(12,u1),(13,(I (List.length a1:Int))),(14,(I (w64 ((List.length a1:Int) - 1)))),(15,(.bool x3)),(16,(.bool (!x3))),(17,(.bool (!x3))),(18,(.bool false)),(19,(ptr b1 1)),(22,u1),(23,(ptr b1 0))]) ⟨z,z,z,z,z,z,z,z,z,z,z,z,z,z,z,z,z,z,z,z,A6⟩<|Bg [⟨14,[],fun vs=>AQ u2,[]⟩,⟨15,[],fun vs=>AQ (I (List.length a2.2:Int)),[]⟩,⟨18,[],fun vs=>AQ (I a2.1),[]⟩,⟨19,[],fun vs=>Cd [] w0 x4,[]⟩,⟨20,[],fun vs=>AQ (I x4),[]⟩] [[],[14],[],[18],[19]] 2 z (by kernel_rfl) (by kernel_rfl) z ?_ ?_
  ·refine An z ?_ ?_
   ·intro w6 hB6
    refine At<|⟨_,z,?_⟩
    exact Ai z z<|Al (hC5.grow hB6) 0 z z Au z z<|Aa<|A1 (Aj _ _) z z ⟨z,z⟩
   refine An z ?_ ?_
   ·intro w6 hB6
    refine AG z z z ?_
    rintro _ _ ⟨rfl,rfl⟩ _
    refine At<|⟨_,z,?_⟩
    exact Ai z z<|AH Ag g2 z z<|Aa<|A1 (Aj _ _) z z ⟨z,z⟩
   refine An z ?_ ?_
   ·intro w6 hB6
    refine At<|⟨_,z,?_⟩
    exact Ai z z<|Al (hC5.grow hB6) 0 z z AU z z<|Aa<|A1 (Aj _ _) z z ⟨z,z⟩
   refine An z ?_ ?_
   ·intro w6 hB6
    refine AG z z z ?_
    rintro _ _ ⟨rfl,rfl⟩ _
    refine At<|⟨_,z,?_⟩
    exact Ai z z<|A9 Ag ty3 g1 hx1 z z z fun b2 o1 h1=>Aa<|A1 (Aj _ _) z z ⟨z,_,_,z,h1⟩
   refine An z ?_ ?_
   ·intro w6 hB6
    refine AG z z z ?_
    rintro _ _ ⟨rfl,b2,o1,rfl,h1⟩ _
    refine At<|⟨_,z,?_⟩
    refine Ai z z<|AD ty3 h1 (hC5.keep.then hB6) z z fun v1 h2=>?_
    obtain rfl:=Bo h2
    exact Aa<|A1 (Aj _ _) z z ⟨z,z⟩
   exact AX
  intro w7 hB7
  refine Ap z z z ?_
  rintro _ _ ⟨rfl,rfl⟩
  refine Ap z z z ?_
  rintro _ _ ⟨rfl,rfl⟩
  refine Ap z z z ?_
  rintro _ _ ⟨rfl,rfl⟩
  refine Ap z z z ?_
  rintro _ _ ⟨rfl,b2,o1,rfl,h1⟩
  refine Ap z z z ?_
  rintro _ _ ⟨rfl,rfl⟩
  exact Bm fun hn1 hb1=>have hC6:=hC5.grow hB7;tg 21 z z z z (CM z z)<|Ai z z<|BQ z z z<|Aa<|tq 22 z z z z<|dn<|nS<|⟨(!decide ((List.length a2.2:Int)=x4)),Ab hr1,z,((((Ao hB3).then hB4).then hB5).then hB7).below,hC6⟩
 rintro _ w2 ⟨x1,rfl,rfl,hB2,hC2⟩
 refine wc hF z (fun hF=>?_) fun hF=>?_
 ·exact Ac<|Af z z<|Aa<|AF<|Ax<|rB hF z z hC2
 refine A5<|Am<|A0<|Ac<|Af z z<|Aa<|be hF fun r2 hr4 hF=>wN (fun l w=>.inl ()=r2∧l=[]∧Below w2.heap.size w2 w∧Ctx [] w0 w []) ?_ ?_
 ·refine A4<|wT<|Bj (fun k l w=>∃x5:Int,l=[(3,(ptr b1 0)),(5,(I x5))]∧Below w2.heap.size w2 w∧Ctx [] w0 w [Ah b1 [(I a2.1),u2]]∧S.IsAtom_l1 a2 k x5=some r2) FUEL ⟨0,z,(Aj _ _),hC2,hr4⟩<|?_
  clear hr4
  rintro k1 _ w9 ⟨x5,rfl,hB8,hC7,hL1⟩
  obtain _|k1:=k1<;>rw [S.IsAtom_l1] at hL1
  ·cases hL1
  refine A0<|Ac<|Ae z z<|fd AY Aq z z z z<|Al hC7 0 z z Au z z<|AH Ag g2 z z<|AZ z z z<|Aa<|wc hL1 z (fun hL1=>?_) fun hL1=>?_
  ·refine A5<|Am<|A0<|A4<|Ac<|fd AY Aq z z z z<|Al hC7 0 z z Au z z<|Ae z z<|be hL1 fun x6 hx2 hL1=>A9 Ag ty3 g2 hx2 z z z fun b3 o2 h3=>AD ty3 h3 hC7.keep z z fun v2 h4=>?_
   obtain rfl:=Bo h4
   refine be hL1 fun x7 hr5 hL1=>cb Tryz.call179 z z (c_S_IsTerm x6 x7 hr5) fun w10 hB9=>have hC8:=hC7.grow hB9;Bv z z<|Aa<|wc hL1 z (fun hL1=>?_) fun hL1=>?_
   ·refine Ac<|Af z z<|Aa<|AF<|AT<|Ax<|Ax<|AT<|Ax<|Ax<|?_
    obtain rfl:=Ab hL1
    dsimp only at hF
    exact rB hF z z hC8
   exact A5<|AN<|Am<|AL<|Ae z z<|AW z z z<|Af z z<|Aa<|nS<|⟨k1,Aw _,w64 (x5+1),z,((Ao hB8).then hB9).below,hC8,hL1⟩
  refine Bi (A2 (A2 (AM ?_)))
  have hC9:=hC7.h0
  exact nS<|⟨Ab hL1,z,(Ao hB8).below,hC9⟩
 rintro _ w11 ⟨rfl,rfl,hB10,hC10⟩
 try dsimp only at hF
 exact Ac<|Af z z<|Aa<|AF<|rB hF z z hC10
theorem c_S_IsQuery {w0:World} (a1:Ta) (u1:Value) (g1:RO [] w0 u1 a1) (a2:Tl) (u2:Value) (g2:RO [] w0 u2 a2.1) (u3:Value) (g3:RO [] w0 u3 a2.2) (rr:Bool) (hF:S.IsQuery a1 a2=some rr) :
 Calls Tryz.prog 69 [u1,(.agg #[u2,u3])].toArray w0 fun e w'=>∃v,e=.returned v∧Res w0 rr v w':=by
 refine Av Tryz.func69 z z ?_
 have hC0:=A3 w0
 unfold S.IsQuery at hF
 refine Ac<|Be (cs:=[u2,u3]) hC0 z z z fun b1 w1 hC1 hB1 hN1=>Af z z<|Aa<|A0<|Ac<|Af z z<|Aa<|be hF fun r1 hr1 hF=>wN (fun l w=>.inl ()=r1∧l=[(0,u1),(3,(ptr b1 0))]∧Below w1.heap.size w1 w∧Ctx [] w0 w [Ah b1 [u2,u3]]) ?_ ?_
 ·refine A4<|wT<|Bj (fun k l w=>∃x1:Int,l=[(0,u1),(3,(ptr b1 0)),(5,(I x1))]∧Below w1.heap.size w1 w∧Ctx [] w0 w [Ah b1 [u2,u3]]∧S.IsQuery_l1 a2 a1 k x1=some r1) FUEL ⟨0,z,(Aj _ _),hC1,hr1⟩<|?_
  clear hr1
  rintro k1 _ w2 ⟨x1,rfl,hB2,hC2,hL1⟩
  obtain _|k1:=k1<;>rw [S.IsQuery_l1] at hL1
  ·cases hL1
  refine A0<|Ac<|Ae z z<|fd Bn BB z z z z<|Al hC2 0 z z BK z z<|AH By g3 z z<|AZ z z z<|Aa<|wc hL1 z (fun hL1=>?_) fun hL1=>?_
  ·refine A5<|Am<|A0<|A4<|Ac<|Ae z z<|fd Bn BB z z z z<|Al hC2 0 z z BK z z<|Ae z z<|be hL1 fun x2 hx1 hL1=>A9 By ty93 g3 hx1 z z z fun b2 o1 h1=>AD ty93 h1 hC2.keep z z fun v1 h2=>?_
   obtain ⟨v2,rfl,h3⟩:=ro_st93 h2
   refine be hL1 fun x3 hr2 hL1=>cb Tryz.call126 z z (c_S_IsAtom a1 u1 (g1.now hC2.keep) x2 v2 (h3.now hC2.keep) x3 hr2) fun w3 hB3=>have hC3:=hC2.grow hB3;Bv z z<|Aa<|wc hL1 z (fun hL1=>?_) fun hL1=>?_
   ·refine Ac<|Af z z<|Aa<|AF<|AT<|Ax<|Ax<|AT<|Ax<|Ax<|?_
    obtain rfl:=Ab hL1
    dsimp only at hF
    exact rB hF z z hC3
   exact A5<|AN<|Am<|AL<|Ae z z<|AW z z z<|Af z z<|Aa<|nS<|⟨k1,Aw _,w64 (x1+1),z,((Ao hB2).then hB3).below,hC3,hL1⟩
  refine Bi (A2 (A2 (AM ?_)))
  exact nS<|⟨Ab hL1,z,(Ao hB2).below,hC2⟩
 rintro _ w4 ⟨rfl,rfl,hB4,hC4⟩
 try dsimp only at hF
 refine Ac<|Az [u2,u3] hC4 0 z z z BA B0 z z<|be hF fun x4 hr3 hF=>AA Tryz.call118 z z (c_S_VarsOf (a2.1,a2.2) u2 (g2.now hC4.keep) u3 (g3.now hC4.keep) x4 hr3)<|?_
 rintro v3 w5 ⟨hB5,F1,hv2,hn1,hb1⟩
 have hC5:=hC4.push hB5 (A:=Ad v3 x4) hv2 hn1 hb1
 refine Af z z<|Aa<|A0<|Ac<|Af z z<|Aa<|be hF fun r2 hr4 hF=>wN (fun l w=>.inl ()=r2∧l=[(0,u1),(3,(ptr b1 0))]∧Below w5.heap.size w5 w∧Ctx [] w0 w [Ah b1 [u2,u3]]) ?_ ?_
 ·refine A4<|wT<|Bj (fun k l w=>∃x5:Int,l=[(0,u1),(3,(ptr b1 0)),(6,v3),(7,(I x5))]∧Below w5.heap.size w5 w∧Ctx [] w0 w [Ad v3 x4,Ah b1 [u2,u3]]∧S.IsQuery_l2 a2 x4 k x5=some r2) FUEL ⟨0,z,(Aj _ _),hC5,hr4⟩<|?_
  clear hr4
  rintro k2 _ w6 ⟨x5,rfl,hB6,hC6,hL2⟩
  obtain _|k2:=k2<;>rw [S.IsQuery_l2] at hL2
  ·cases hL2
  refine A0<|Ac<|Ae z z<|fd Bn Aq z z z z<|Al hC6 1 z z Au z z<|AH Ag g2 z z<|AZ z z z<|Aa<|wc hL2 z (fun hL2=>?_) fun hL2=>?_
  ·refine A5<|Am<|A0<|A4<|Ac<|Ae z z<|fd Bn Aq z z z z<|Al hC6 1 z z Au z z<|Ae z z<|be hL2 fun x6 hx2 hL2=>A9 Ag ty3 g2 hx2 z z z fun b3 o2 h4=>AD ty3 h4 hC6.keep z z fun v4 h5=>?_
   obtain rfl:=Bo h5
   refine be hL2 fun x7 hr5 hL2=>cb Tryz.call61 z z (c_S_l2Has x4 v3 ((hC6.ro 0 z).now (Ay _ _)) x6 x7 hr5) fun w7 hB7=>have hC7:=hC6.grow hB7;Bv z z<|Aa<|wc hL2 z (fun hL2=>?_) fun hL2=>?_
   ·refine Ac<|Af z z<|Aa<|AF<|AT<|Ax<|Ax<|AT<|Ax<|Ax<|?_
    obtain rfl:=Ab hL2
    dsimp only at hF
    exact rB hF z z hC7
   exact A5<|AN<|Am<|AL<|Ae z z<|AW z z z<|Af z z<|Aa<|nS<|⟨k2,Aw _,w64 (x5+1),z,((Ao hB6).then hB7).below,hC7,hL2⟩
  refine Bi (A2 (A2 (AM ?_)))
  have hC9:=hC6.f1.h1
  exact nS<|⟨Ab hL2,z,(Ao hB6).below,hC9⟩
 rintro _ w9 ⟨rfl,rfl,hB8,hC10⟩
 try dsimp only at hF
 refine be hF fun r3 hr6 hF=>B9 (fun l w=>∃x8:Bool,x8=r3∧l=[(4,(.bool x8))]∧Below w9.heap.size w9 w∧Ctx [] w0 w []) ?_ ?_
 ·refine AL<|Ae z z<|be hr6 fun x9 hr7 hr6=>cb Cf z z (c_S_IsSchema a1 u1 (g1.now hC10.keep) x9 hr7) fun w11 hB10=>have hC12:=hC10.grow hB10;Ae z z<|wk hr6 (fun hr6=>?_) fun hr6=>?_
  ·refine Ai z z<|fd Bn BB z z z z<|Ai z z<|Al hC12 0 z z BK z z<|Ai z z<|AH By g3 z z<|be hr6 fun x10 hr8 hr6=>Ai z z<|cb BH z z (c_S_l1In (List.length a2.2:Int) 1 4 x10 hr8) fun w12 hB11=>have hC13:=hC12.grow hB11;AJ z z z<|Ae z z<|wk hr6 (fun hr6=>?_) fun hr6=>?_
   ·refine Ai z z<|fd Bn Aq z z z z<|Ai z z<|Al hC13 0 z z Au z z<|Ai z z<|AH Ag g2 z z<|Ai z z<|Cv z z z<|AJ z z z<|Af z z<|Aa<|?_
    have hC14:=hC13.h0
    exact nS<|⟨(decide ((List.length a2.1:Int) ≤ 3)),Ab hr6,z,((Ao hB10).then hB11).below,hC14⟩
   refine gs z z z z<|gs z z z z<|gs z z z z<|gs z z z z<|AK z z z<|Af z z<|Aa<|?_
   have hC15:=hC13.h0
   exact nS<|⟨false,Ab hr6,z,((Ao hB10).then hB11).below,hC15⟩
  refine gs z z z z<|gs z z z z<|gs z z z z<|gs z z z z<|AK z z z<|Ae z z<|gs z z z z<|gs z z z z<|gs z z z z<|gs z z z z<|AK z z z<|Af z z<|Aa<|?_
  have hC16:=hC12.h0
  exact nS<|⟨false,Ab hr6,z,(Ao hB10).below,hC16⟩
 rintro _ w10 ⟨x8,rfl,rfl,hB9,hC11⟩
 exact AF<|rB hF z z hC11
theorem c_S_ValueOf {w0:World} (a1:Th) (u1:Value) (g1:RO [] w0 u1 a1.1) (u2:Value) (g2:RO [] w0 u2 a1.2) (a2:Int) (rr:Int) (hF:S.ValueOf a1 a2=some rr) :
 Calls Tryz.prog 127 [(.agg #[u1,u2]),(I a2)].toArray w0 fun e w'=>∃v,e=.returned v∧Res w0 rr v w':=by
 refine Av Tryz.func127 z z ?_
 have hC0:=A3 w0
 unfold S.ValueOf at hF
 refine Ac<|Be (cs:=[u1,u2]) hC0 z z z fun b1 w1 hC1 hB1 hN1=>Af z z<|Aa<|A0<|Ac<|Ae z z<|be hF fun x1 hr1 hF=>cb CU z z (c_S_IsVar a2 x1 hr1) fun w2 hB2=>have hC2:=hC1.grow hB2;Bv z z<|Aa<|wc hF z (fun hF=>?_) fun hF=>?_
 ·exact Ac<|Ae z z<|Af z z<|Aa<|AF<|Ax<|rI hF z z hC2
 refine A5<|Am<|A0<|Ac<|Af z z<|Aa<|be hF fun r1 hr2 hF=>wN (fun l w=>.inl ()=r1∧l=[]∧Below w2.heap.size w2 w∧Ctx [] w0 w []) ?_ ?_
 ·refine A4<|wT<|Bj (fun k l w=>∃x2:Int,l=[(1,(I a2)),(2,(ptr b1 0)),(5,(I x2))]∧Below w2.heap.size w2 w∧Ctx [] w0 w [Ah b1 [u1,u2]]∧S.ValueOf_l1 a1 a2 k x2=some r1) FUEL ⟨0,z,(Aj _ _),hC2,hr2⟩<|?_
  clear hr2
  rintro k1 _ w3 ⟨x2,rfl,hB3,hC3,hL1⟩
  obtain _|k1:=k1<;>rw [S.ValueOf_l1] at hL1
  ·cases hL1
  refine A0<|be hL1 fun r2 hr3 hL1=>B9 (fun l w=>∃x3:Bool,x3=r2∧l=[(1,(I a2)),(2,(ptr b1 0)),(5,(I x2)),(21,(.bool x3))]∧Below w3.heap.size w3 w∧Ctx [] w0 w [Ah b1 [u1,u2]]) ?_ ?_
  ·refine AL<|Ae z z<|fd Bc Aq z z z z<|Al hC3 0 z z Au z z<|AH Ag g1 z z<|AZ z z z<|Ae z z<|wk hr3 (fun hr3=>?_) fun hr3=>?_
   ·exact Ai z z<|Ae z z<|Ai z z<|fd Bc Aq z z z z<|Ai z z<|Al hC3 0 z z Au z z<|Ai z z<|AH Ag g2 z z<|Ai z z<|AZ z z z<|AJ z z z<|Aa<|nS<|⟨(decide (x2 < (List.length a1.2:Int))),Ab hr3,z,(Aj _ _),hC3⟩
   exact gs z z z z<|gs z z z z<|gs z z z z<|gs z z z z<|gs z z z z<|AK z z z<|Aa<|nS<|⟨false,Ab hr3,z,(Aj _ _),hC3⟩
  rintro _ w4 ⟨x3,rfl,rfl,hB4,hC4⟩
  refine wc hL1 z (fun hL1=>?_) fun hL1=>?_
  ·refine A5<|Am<|A0<|A4<|Ac<|fd Bc Aq z z z z<|Al hC4 0 z z Au z z<|Ae z z<|be hL1 fun x4 hx1 hL1=>A9 Ag ty3 g1 hx1 z z z fun b2 o1 h1=>AD ty3 h1 hC4.keep z z fun v1 h2=>?_
   obtain rfl:=Bo h2
   refine Ae z z<|BD z z z<|Aa<|wc hL1 z (fun hL1=>?_) fun hL1=>?_
   ·refine Ac<|fd Bc Aq z z z z<|Al hC4 0 z z Au z z<|Ae z z<|be hL1 fun x5 hx2 hL1=>A9 Ag ty3 g2 hx2 z z z fun b3 o2 h3=>AD ty3 h3 hC4.keep z z fun v2 h4=>?_
    obtain rfl:=Bo h4
    refine Af z z<|Aa<|AF<|AT<|Ax<|Ax<|AT<|Ax<|Ax<|?_
    obtain rfl:=Ab hL1
    dsimp only at hF
    exact rI hF z z hC4
   exact A5<|AN<|Am<|AL<|Ae z z<|AW z z z<|Af z z<|Aa<|nS<|⟨k1,Aw _,w64 (x2+1),z,((Ao hB3).then hB4).below,hC4,hL1⟩
  refine Bi (A2 (A2 (AM ?_)))
  have hC5:=hC4.h0
  exact nS<|⟨Ab hL1,z,((Ao hB3).then hB4).below,hC5⟩
 rintro _ w5 ⟨rfl,rfl,hB5,hC6⟩
 try dsimp only at hF
 exact Ac<|Af z z<|Aa<|AF<|rI hF z z hC6
theorem c_S_l4Tuples {w0:World} (a1:Tl) (u1:Value) (g1:RO [] w0 u1 a1.1) (u2:Value) (g2:RO [] w0 u2 a1.2) (a2:Tk) (u3:Value) (g3:RO [] w0 u3 a2) (rr:Tj) (hF:S.l4Tuples a1 a2=some rr) :
 Calls Tryz.prog 70 [(.agg #[u1,u2]),u3].toArray w0 fun e w'=>∃v,e=.returned v∧Res w0 rr v w':=by
 refine Av Tryz.func70 z z ?_
 have hC0:=A3 w0
 unfold S.l4Tuples at hF
 refine Ac<|Be (cs:=[u1,u2]) hC0 z z z fun b1 w1 hC1 hB1 hN1=>Af z z<|Aa<|Ac<|Ar (vs:=[]) hC1 AC ty24 z z z z (by simp) z z fun b2 w2 hC2 hB2=>?_
 have hC5:=hC2.rowE (α:=Ta)
 refine Af z z<|Aa<|A0<|Ac<|Af z z<|Aa<|be hF fun r1 hr1 hF=>wN (fun l w=>∃v2:Value,∃x3:Tj,x3=r1∧l=[(5,v2)]∧Ctx [] w0 w [Ad v2 x3]) ?_ ?_
 ·refine A4<|wT<|Bj (fun k l w=>∃v1:Value,∃x1:Tj,∃x2:Int,l=[(1,u3),(2,(ptr b1 0)),(5,v1),(6,(I x2))]∧Ctx [] w0 w [Ad v1 x1,Ah b1 [u1,u2]]∧S.l4Tuples_l1 a2 a1 k x1 x2=some r1) FUEL ⟨(.slice (some ⟨b2,0,none⟩) 0 0),([]:List Ta),0,z,hC5,hr1⟩<|?_
  clear hr1
  rintro k1 _ w3 ⟨v1,x1,x2,rfl,hC6,hL1⟩
  obtain _|k1:=k1<;>rw [S.l4Tuples_l1] at hL1
  ·cases hL1
  refine A0<|Ac<|Ae z z<|Ae z z<|AH Bz g3 z z<|AZ z z z<|Aa<|wc hL1 z (fun hL1=>?_) fun hL1=>?_
  ·refine A5<|Am<|A0<|A4<|Ac<|Ar (vs:=[]) hC6 Ag ty3 z z z z (by simp) z z fun b3 w4 hC7 hB4=>?_
   have hC10:=hC7.rowE (α:=Int)
   refine Af z z<|Aa<|A0<|Ac<|Af z z<|Aa<|be hL1 fun r2 hr2 hL1=>wN (fun l w=>∃v4:Value,∃x6:Ta,x6=r2∧l=[(1,u3),(2,(ptr b1 0)),(5,v1),(6,(I x2)),(7,v4)]∧Ctx [] w0 w [Ad v4 x6,Ad v1 x1,Ah b1 [u1,u2]]) ?_ ?_
   ·refine A4<|wT<|Bj (fun k l w=>∃v3:Value,∃x4:Ta,∃x5:Int,l=[(1,u3),(2,(ptr b1 0)),(5,v1),(6,(I x2)),(7,v3),(8,(I x5))]∧Ctx [] w0 w [Ad v3 x4,Ad v1 x1,Ah b1 [u1,u2]]∧S.l4Tuples_l2 a1 a2 x2 k x4 x5=some r2) FUEL ⟨(.slice (some ⟨b3,0,none⟩) 0 0),([]:List Int),0,z,hC10,hr2⟩<|?_
    clear hr2
    rintro k2 _ w5 ⟨v3,x4,x5,rfl,hC11,hL2⟩
    obtain _|k2:=k2<;>rw [S.l4Tuples_l2] at hL2
    ·cases hL2
    refine A0<|Ac<|Ae z z<|fd Bn Aq z z z z<|Al hC11 2 z z Au z z<|AH Ag g1 z z<|AZ z z z<|Aa<|wc hL2 z (fun hL2=>?_) fun hL2=>?_
    ·refine A5<|Am<|A0<|A4<|W_drawn 14 z hmix fun w6 hB6=>have hC12:=hC11.grow hB6;tm 0 z z z<|tm 1 z z z<|tm 2 z z z<|be hL2 fun x7 hx1 hL2=>tk 3 z z (B5 Bz ty149 g3 hx1 z z)<|A9 Bz ty149 g3 hx1 z z z fun b4 o1 h1=>Aa<|tf 5 Bn Aq z z z z z<|tm 7 z z z<|be hL2 fun x8 hx2 hL2=>wAS (l':=[(1,u3),(2,(ptr b1 0)),(5,v1),(6,(I x2)),(7,v3),(8,(I x5)),(17,(I x5)),(18,(ptr b1 0)),(19,u1),(20,(I (List.length a1.1:Int))),(21,(.bool (decide (x5 < (List.length a1.1:Int))))),(24,v3),(25,u3),(26,(I x2)),(27,(ptr b4 o1)),(29,(ptr b1 0)),(31,(I x5))]) ⟨z,z,z,z,z,z,z,z,z,z,z,z,z,z,z,z,z,A6⟩<|Bg [⟨4,[],fun vs=>Cj [] w0 x7,[]⟩,⟨6,[],fun vs=>AQ u1,[]⟩,⟨8,[],fun vs=>Cd [] w0 x8,[]⟩,⟨9,[],fun vs=>AQ (I x8),[]⟩] [[],[],[6],[8]] 4 z (by kernel_rfl) (by kernel_rfl) z ?_ ?_
     ·refine An z ?_ ?_
      ·intro w7 hB7
       refine At<|⟨_,z,?_⟩
       exact AD ty149 h1 (hC12.keep.then hB7) z z fun v8 h5=>Aa<|A1 (Aj _ _) z z ⟨z,h5⟩
      refine An z ?_ ?_
      ·intro w7 hB7
       refine At<|⟨_,z,?_⟩
       exact Al (hC12.grow hB7) 2 z z Au z z<|Aa<|A1 (Aj _ _) z z ⟨z,z⟩
      refine An z ?_ ?_
      ·intro w7 hB7
       refine AG z z z ?_
       rintro _ _ ⟨rfl,rfl⟩ _
       refine At<|⟨_,z,?_⟩
       exact A9 Ag ty3 g1 hx2 z z z fun b5 o2 h6=>Aa<|A1 (Aj _ _) z z ⟨z,_,_,z,h6⟩
      refine An z ?_ ?_
      ·intro w7 hB7
       refine AG z z z ?_
       rintro _ _ ⟨rfl,b5,o2,rfl,h6⟩ _
       refine At<|⟨_,z,?_⟩
       refine AD ty3 h6 (hC12.keep.then hB7) z z (fun v9 h7=>?_)
       obtain rfl:=Bo h7
       exact Aa<|A1 (Aj _ _) z z ⟨z,z⟩
      exact AX
     intro w9 hB8
     refine Ap z z z ?_
     rintro v8 _ ⟨rfl,h5⟩
     obtain ⟨v6,v7,rfl,h3,h4⟩:=C6 h5
     refine Ap z z z ?_
     rintro _ _ ⟨rfl,rfl⟩
     refine Ap z z z ?_
     rintro _ _ ⟨rfl,b5,o2,rfl,h6⟩
     refine Ap z z z ?_
     rintro _ _ ⟨rfl,rfl⟩
     refine Bm fun hn1 hb1=>have hC13:=hC12.grow hB8;be hL2 fun x9 hr3 hL2=>oe 10 z<|ci Tryz.call127 z z (c_S_ValueOf x7 v6 (h3.now hC13.keep) v7 (h4.now hC13.keep) x8 x9 hr3) fun w10 hB9=>have hC14:=hC13.grow hB9;Aa<|oe 11 z<|Ar (vs:=[(I x9)]) hC14 Ag ty3 z z z z (fac z<|fa0) z z fun b6 w11 hC15 hB10=>?_
     have hC20:=hC15.row1i
     refine Aa<|be hL2 fun x10 hx3 hL2=>oe 12 z<|AS (α:=Int) hC20 1 z (hC20.ro 0 z) (Ay _ _) Ag ty3 z hx3 z z z fun v10 w12 hC21=>?_
     try dsimp only [List.set] at hC21
     exact Aa<|ta 13 z z z<|dn<|AN<|Am<|AL<|Ae z z<|AW z z z<|Af z z<|Aa<|have hC22:=hC21.f3;have hC23:=hC22.f3;have hC24:=hC23.f3;have hC25:=hC24.h3;nS<|⟨k2,Aw _,v10,x10,w64 (x5+1),z,hC25,hL2⟩
    refine Bi (A2 (A2 (AM ?_)))
    exact nS<|⟨v3,x4,Ab hL2,z,hC11⟩
   rintro _ w13 ⟨v4,x6,rfl,rfl,hC26⟩
   refine AL<|Ae z z<|Ae z z<|be hL1 fun x11 hr4 hL1=>AA Tryz.call50 z z (c_S_AddTuple x1 v1 ((hC26.ro 1 z).now (Ay _ _)) x6 v4 ((hC26.ro 0 z).now (Ay _ _)) x11 hr4)<|?_
   rintro v11 w14 ⟨hB12,F1,hv2,hn2,hb2⟩
   have hC27:=hC26.push hB12 (A:=Ad v11 x11) hv2 hn2 hb2
   exact Af z z<|Aa<|AN<|Am<|AL<|Ae z z<|AW z z z<|Af z z<|Aa<|have hC28:=hC27.f3;have hC29:=hC28.f1;have hC30:=hC29.h2;nS<|⟨k1,Aw _,v11,x11,w64 (x2+1),z,hC30,hL1⟩
  refine Bi (A2 (A2 (AM ?_)))
  have hC31:=hC6.h1
  exact nS<|⟨v1,x1,Ab hL1,z,hC31⟩
 rintro _ w15 ⟨v2,x3,rfl,rfl,hC32⟩
 exact Ac<|Ae z z<|Af z z<|Aa<|AF<|rO hF z z hC32 0 z
theorem c_S_l4Copy {w0:World} (a1:Th) (u1:Value) (g1:RO [] w0 u1 a1.1) (u2:Value) (g2:RO [] w0 u2 a1.2) (rr:Th) (hF:S.l4Copy a1=some rr) :
 Calls Tryz.prog 212 [(.agg #[u1,u2])].toArray w0 fun e w'=>∃v,e=.returned v∧Res w0 rr v w':=by
 refine Av Tryz.func212 z z ?_
 have hC0:=A3 w0
 unfold S.l4Copy at hF
 refine Ac<|Be (cs:=[u1,u2]) hC0 z z z fun b1 w1 hC1 hB1 hN1=>Bq hC1 zero149 z z fun b2 w2 hC2 hB2 hN2=>Aa<|A0<|W_drawn 10 z hmix fun w3 hB3=>have hC3:=hC2.grow hB3;tf 1 Bc Aq z z z z z<|tf 5 Bc Aq z z z z z<|be hF fun x1 hx1 hF=>wAS (l':=[(0,(.agg #[u1,u2])),(1,(ptr b1 0)),(2,(ptr b2 0)),(4,(ptr b1 0)),(8,(ptr b1 1))]) ⟨z,z,z,z,z,A6⟩<|Bg [⟨0,[],fun vs=>BS (([]:List Int):Ta),[]⟩,⟨2,[],fun vs=>AQ u1,[]⟩,⟨3,[],fun vs=>BS x1,[0]⟩,⟨4,[],fun vs=>BS (([]:List Int):Ta),[]⟩,⟨6,[],fun vs=>AQ u2,[]⟩] [[],[],[2],[],[]] 3 z (by kernel_rfl) (by kernel_rfl) z ?_ ?_
 ·refine An z ?_ ?_
  ·intro w7 hB6
   refine At<|⟨_,z,?_⟩
   refine Ar (vs:=[]) (A3 w7) Ag ty3 z z z z (by simp) z z (fun b3 w4 hC4 hB4=>?_)
   have hC7:=hC4.rowE (α:=Int)
   exact Aa<|Co hC7 z z (fun F h=>h)
  refine An z ?_ ?_
  ·intro w7 hB6
   refine At<|⟨_,z,?_⟩
   exact Al (hC3.grow hB6) 1 z z Au z z<|Aa<|A1 (Aj _ _) z z ⟨z,z⟩
  refine Di z z z ?_ ?_
  ·intro w7 hB6
   refine AG z z z ?_
   rintro _ _ ⟨rfl,rfl⟩ _
   refine At<|⟨_,_,z,z,?_⟩
   intro v1 F1 hv1 ho1
   have hC8:=Ctx.local hv1 ho1
   refine AS (α:=Int) hC8 0 z g1 (hC3.keep.then hB6) Ag ty3 z hx1 z z z (fun v2 w5 hC9=>?_)
   try dsimp only [List.set] at hC9
   exact Aa<|Co hC9 z z (fun F h=>h)
  refine An z ?_ ?_
  ·intro w7 hB6
   refine At<|⟨_,z,?_⟩
   refine Ar (vs:=[]) (A3 w7) Ag ty3 z z z z (by simp) z z (fun b4 w6 hC10 hB5=>?_)
   have hC13:=hC10.rowE (α:=Int)
   exact Aa<|Co hC13 z z (fun F h=>h)
  refine An z ?_ ?_
  ·intro w7 hB6
   refine At<|⟨_,z,?_⟩
   exact Al (hC3.grow hB6) 1 z z Au z z<|Aa<|A1 (Aj _ _) z z ⟨z,z⟩
  exact AX
 intro w9 hB7
 refine AllE_skip z<|Ap z z z<|?_
 rintro _ _ ⟨rfl,rfl⟩
 refine Ap z z z fun v3 F2 hv2=>Ap z z z fun v4 F3 hv3=>Ap z z z<|?_
 rintro _ _ ⟨rfl,rfl⟩
 refine Bm ?_
 intro hn1 hb1
 have hC14:=hC3.pushL hB7 (Bs:=[Ad v4 (([]:List Int):Ta),Ad v3 x1]) (Fs:=[F3,F2]) ⟨F3,_,z,hv3,F2,_,z,hv2,z⟩ (by simpa using hn1) (fun b h=>(hb1 b (by simpa using h)).1)
 refine be hF fun x2 hx2 hF=>oe 7 z<|AS (α:=Int) hC14 0 z g2 hC14.keep Ag ty3 z hx2 z z z fun v5 w10 hC15=>?_
 try dsimp only [List.set] at hC15
 refine Aa<|tk 8 z z (BR (vs:=[(0,v3),(1,v5)]) z z (built149_0_1 (ro_cells (hC15.ro 1 z)) (ro_cells (hC15.ro 0 z))))<|B4 (vs:=[(0,v3),(1,v5)]) z z z (built149_0_1 (ro_cells (hC15.ro 1 z)) (ro_cells (hC15.ro 0 z)))<|Aa<|oe 9 z<|AE (cs':=[v3,v5]) (new:=[v3,v5]) hC15 2 z z (fac (Br (hC15.ro 1 z))<|fac (Br (hC15.ro 0 z))<|fa0) z Ba z z fun w11 hC16 hKp1=>?_
 try dsimp only [List.set] at hC16
 refine Aa<|dn<|Am<|AF<|?_
 obtain rfl:=Ab hF
 refine BY z (rv_cell_agg (cs':=[v3,v5]) hC16 (i:=2) z z z B1 Ba z)<|have hC19:=hC16.f1;?_
 have hC17:=Ce v3 x1 v5 x2 hC19
 exact ⟨_,z,CJ hC17 0 z⟩
theorem c_S_l4Bound {w0:World} (a1:Th) (u1:Value) (g1:RO [] w0 u1 a1.1) (u2:Value) (g2:RO [] w0 u2 a1.2) (a2:Int) (rr:Bool) (hF:S.l4Bound a1 a2=some rr) :
 Calls Tryz.prog 213 [(.agg #[u1,u2]),(I a2)].toArray w0 fun e w'=>∃v,e=.returned v∧Res w0 rr v w':=by
 refine Av Tryz.func213 z z ?_
 have hC0:=A3 w0
 unfold S.l4Bound at hF
 refine Ac<|Be (cs:=[u1,u2]) hC0 z z z fun b1 w1 hC1 hB1 hN1=>Af z z<|Aa<|A0<|Ac<|Af z z<|Aa<|be hF fun r1 hr1 hF=>wN (fun l w=>.inl ()=r1∧l=[]∧Below w1.heap.size w1 w∧Ctx [] w0 w []) ?_ ?_
 ·refine A4<|wT<|Bj (fun k l w=>∃x1:Int,l=[(1,(I a2)),(2,(ptr b1 0)),(5,(I x1))]∧Below w1.heap.size w1 w∧Ctx [] w0 w [Ah b1 [u1,u2]]∧S.l4Bound_l1 a1 a2 k x1=some r1) FUEL ⟨0,z,(Aj _ _),hC1,hr1⟩<|?_
  clear hr1
  rintro k1 _ w2 ⟨x1,rfl,hB2,hC2,hL1⟩
  obtain _|k1:=k1<;>rw [S.l4Bound_l1] at hL1
  ·cases hL1
  refine A0<|be hL1 fun r2 hr2 hL1=>B9 (fun l w=>∃x2:Bool,x2=r2∧l=[(1,(I a2)),(2,(ptr b1 0)),(5,(I x1)),(17,(.bool x2))]∧Below w2.heap.size w2 w∧Ctx [] w0 w [Ah b1 [u1,u2]]) ?_ ?_
  ·refine AL<|Ae z z<|fd Bc Aq z z z z<|Al hC2 0 z z Au z z<|AH Ag g1 z z<|AZ z z z<|Ae z z<|wk hr2 (fun hr2=>?_) fun hr2=>?_
   ·exact Ai z z<|Ae z z<|Ai z z<|fd Bc Aq z z z z<|Ai z z<|Al hC2 0 z z Au z z<|Ai z z<|AH Ag g2 z z<|Ai z z<|AZ z z z<|AJ z z z<|Aa<|nS<|⟨(decide (x1 < (List.length a1.2:Int))),Ab hr2,z,(Aj _ _),hC2⟩
   exact gs z z z z<|gs z z z z<|gs z z z z<|gs z z z z<|gs z z z z<|AK z z z<|Aa<|nS<|⟨false,Ab hr2,z,(Aj _ _),hC2⟩
  rintro _ w3 ⟨x2,rfl,rfl,hB3,hC3⟩
  refine wc hL1 z (fun hL1=>?_) fun hL1=>?_
  ·refine A5<|Am<|A0<|A4<|Ac<|fd Bc Aq z z z z<|Al hC3 0 z z Au z z<|Ae z z<|be hL1 fun x3 hx1 hL1=>A9 Ag ty3 g1 hx1 z z z fun b2 o1 h1=>AD ty3 h1 hC3.keep z z fun v1 h2=>?_
   obtain rfl:=Bo h2
   refine Ae z z<|BD z z z<|Aa<|wc hL1 z (fun hL1=>?_) fun hL1=>?_
   ·refine Ac<|Af z z<|Aa<|AF<|AT<|Ax<|Ax<|AT<|Ax<|Ax<|?_
    obtain rfl:=Ab hL1
    dsimp only at hF
    exact rB hF z z hC3
   exact A5<|AN<|Am<|AL<|Ae z z<|AW z z z<|Af z z<|Aa<|nS<|⟨k1,Aw _,w64 (x1+1),z,((Ao hB2).then hB3).below,hC3,hL1⟩
  refine Bi (A2 (A2 (AM ?_)))
  have hC4:=hC3.h0
  exact nS<|⟨Ab hL1,z,((Ao hB2).then hB3).below,hC4⟩
 rintro _ w4 ⟨rfl,rfl,hB4,hC5⟩
 try dsimp only at hF
 exact Ac<|Af z z<|Aa<|AF<|rB hF z z hC5
theorem c_S_l4Bind {w0:World} (a1:Th) (u1:Value) (g1:RO [] w0 u1 a1.1) (u2:Value) (g2:RO [] w0 u2 a1.2) (a2:Int) (a3:Int) (rr:Th) (hF:S.l4Bind a1 a2 a3=some rr) :
 Calls Tryz.prog 214 [(.agg #[u1,u2]),(I a2),(I a3)].toArray w0 fun e w'=>∃v,e=.returned v∧Res w0 rr v w':=by
 refine Av Tryz.func214 z z ?_
 have hC0:=A3 w0
 unfold S.l4Bind at hF
 refine Ac<|Be (cs:=[u1,u2]) hC0 z z z fun b1 w1 hC1 hB1 hN1=>Bq hC1 zero149 z z fun b2 w2 hC2 hB2 hN2=>Aa<|A0<|W_drawn 16 z hmix fun w3 hB3=>have hC3:=hC2.grow hB3;tf 1 Bc Aq z z z z z<|tm 4 z z z<|tf 8 Bc Aq z z z z z<|tm 11 z z z<|be hF fun x1 hx1 hF=>be hF fun x2 hx2 hF=>be hF fun x3 hx3 hF=>wAS (l':=[(0,(.agg #[u1,u2])),(1,(I a2)),(2,(I a3)),(3,(ptr b1 0)),(6,(ptr b2 0)),(8,(ptr b1 0)),(11,(I a2)),(15,(ptr b1 1)),(18,(I a3))]) ⟨z,z,z,z,z,z,z,z,z,A6⟩<|Bg [⟨0,[],fun vs=>BS (([]:List Int):Ta),[]⟩,⟨2,[],fun vs=>AQ u1,[]⟩,⟨3,[],fun vs=>BS x1,[0]⟩,⟨5,[],fun vs=>BS ([a2]:Ta),[]⟩,⟨6,[],fun vs=>BS x2,[3]⟩,⟨7,[],fun vs=>BS (([]:List Int):Ta),[]⟩,⟨9,[],fun vs=>AQ u2,[]⟩,⟨10,[],fun vs=>BS x3,[7]⟩,⟨12,[],fun vs=>BS ([a3]:Ta),[]⟩] [[],[],[2],[],[5],[],[],[9],[]] 3 z (by kernel_rfl) (by kernel_rfl) z ?_ ?_
 ·refine An z ?_ ?_
  ·intro w12 hB8
   refine At<|⟨_,z,?_⟩
   refine Ar (vs:=[]) (A3 w12) Ag ty3 z z z z (by simp) z z (fun b3 w4 hC4 hB4=>?_)
   have hC7:=hC4.rowE (α:=Int)
   exact Aa<|Co hC7 z z (fun F h=>h)
  refine An z ?_ ?_
  ·intro w12 hB8
   refine At<|⟨_,z,?_⟩
   exact Al (hC3.grow hB8) 1 z z Au z z<|Aa<|A1 (Aj _ _) z z ⟨z,z⟩
  refine Di z z z ?_ ?_
  ·intro w12 hB8
   refine AG z z z ?_
   rintro _ _ ⟨rfl,rfl⟩ _
   refine At<|⟨_,_,z,z,?_⟩
   intro v1 F1 hv1 ho1
   have hC8:=Ctx.local hv1 ho1
   refine AS (α:=Int) hC8 0 z g1 (hC3.keep.then hB8) Ag ty3 z hx1 z z z (fun v2 w5 hC9=>?_)
   try dsimp only [List.set] at hC9
   exact Aa<|Co hC9 z z (fun F h=>h)
  refine An z ?_ ?_
  ·intro w12 hB8
   refine At<|⟨_,z,?_⟩
   refine Ar (vs:=[(I a2)]) (A3 w12) Ag ty3 z z z z (fac z<|fa0) z z (fun b4 w6 hC10 hB5=>?_)
   have hC15:=hC10.row1i
   exact Aa<|Co hC15 z z (fun F h=>h)
  refine Di z z z ?_ ?_
  ·intro w12 hB8
   refine AG z z z fun v4 F3 hv3 _=>At<|⟨_,_,z,z,?_⟩
   intro v3 F2 hv2 ho2
   have hC16:=Ctx.local hv2 ho2
   refine AS (α:=Int) hC16 0 z (CI hv3) (Ay _ _) Ag ty3 z hx2 z z z (fun v5 w7 hC17=>?_)
   try dsimp only [List.set] at hC17
   exact Aa<|Co hC17 z z (fun F h=>h)
  refine An z ?_ ?_
  ·intro w12 hB8
   refine At<|⟨_,z,?_⟩
   refine Ar (vs:=[]) (A3 w12) Ag ty3 z z z z (by simp) z z (fun b5 w9 hC18 hB6=>?_)
   have hC21:=hC18.rowE (α:=Int)
   exact Aa<|Co hC21 z z (fun F h=>h)
  refine An z ?_ ?_
  ·intro w12 hB8
   refine At<|⟨_,z,?_⟩
   exact Al (hC3.grow hB8) 1 z z Au z z<|Aa<|A1 (Aj _ _) z z ⟨z,z⟩
  refine Di z z z ?_ ?_
  ·intro w12 hB8
   refine AG z z z ?_
   rintro _ _ ⟨rfl,rfl⟩ _
   refine At<|⟨_,_,z,z,?_⟩
   intro v7 F5 hv5 ho3
   have hC22:=Ctx.local hv5 ho3
   refine AS (α:=Int) hC22 0 z g2 (hC3.keep.then hB8) Ag ty3 z hx3 z z z (fun v8 w10 hC23=>?_)
   try dsimp only [List.set] at hC23
   exact Aa<|Co hC23 z z (fun F h=>h)
  refine An z ?_ ?_
  ·intro w12 hB8
   refine At<|⟨_,z,?_⟩
   refine Ar (vs:=[(I a3)]) (A3 w12) Ag ty3 z z z z (fac z<|fa0) z z (fun b6 w11 hC24 hB7=>?_)
   have hC29:=hC24.row1i
   exact Aa<|Co hC29 z z (fun F h=>h)
  exact AX
 intro w13 hB9
 refine AllE_skip z<|Ap z z z<|?_
 rintro _ _ ⟨rfl,rfl⟩
 refine AllE_skip z<|Ap z z z fun v4 F3 hv3=>Ap z z z fun v6 F4 hv4=>AllE_skip z<|Ap z z z<|?_
 rintro _ _ ⟨rfl,rfl⟩
 refine Ap z z z fun v9 F6 hv6=>Ap z z z fun v10 F7 hv7=>Bm fun hn1 hb1=>?_
 have hC30:=hC3.pushL hB9 (Bs:=[Ad v10 ([a3]:Ta),Ad v9 x3,Ad v6 x2,Ad v4 ([a2]:Ta)]) (Fs:=[F7,F6,F4,F3]) ⟨F7,_,z,hv7,F6,_,z,hv6,F4,_,z,hv4,F3,_,z,hv3,z⟩ (by simpa using hn1) (fun b h=>(hb1 b (by simpa using h)).1)
 refine be hF fun x4 hx4 hF=>oe 13 z<|AS (α:=Int) hC30 1 z (hC30.ro 0 z) (Ay _ _) Ag ty3 z hx4 z z z fun v11 w14 hC31=>?_
 try dsimp only [List.set] at hC31
 refine Aa<|tk 14 z z (BR (vs:=[(0,v6),(1,v11)]) z z (built149_0_1 (ro_cells (hC31.ro 2 z)) (ro_cells (hC31.ro 1 z))))<|B4 (vs:=[(0,v6),(1,v11)]) z z z (built149_0_1 (ro_cells (hC31.ro 2 z)) (ro_cells (hC31.ro 1 z)))<|Aa<|oe 15 z<|AE (cs':=[v6,v11]) (new:=[v6,v11]) hC31 4 z z (fac (Br (hC31.ro 2 z))<|fac (Br (hC31.ro 1 z))<|fa0) z Ba z z fun w15 hC32 hKp1=>?_
 try dsimp only [List.set] at hC32
 refine Aa<|dn<|Am<|AF<|?_
 obtain rfl:=Ab hF
 refine BY z (rv_cell_agg (cs':=[v6,v11]) hC32 (i:=4) z z z B1 Ba z)<|have hC34:=hC32.f1;have hC35:=hC34.f2;?_
 have hC33:=Ce v6 x2 v11 x4 hC35
 exact ⟨_,z,CJ hC33 0 z⟩
theorem c_S_MatchAtom {w0:World} (a1:Th) (u1:Value) (g1:RO [] w0 u1 a1.1) (u2:Value) (g2:RO [] w0 u2 a1.2) (a2:Tb) (u3:Value) (g3:RO [] w0 u3 a2.2) (a3:Tb) (u4:Value) (g4:RO [] w0 u4 a3.2) (rr:(Th × Bool)) (hF:S.MatchAtom a1 a2 a3=some rr) :
 Calls Tryz.prog 180 [(.agg #[u1,u2]),(.agg #[(I a2.1),u3]),(.agg #[(I a3.1),u4])].toArray w0 fun e w'=>∃v,e=.returned v∧Res2 w0 rr.1 rr.2 v w':=by
 refine Av Tryz.func180 z z ?_
 have hC0:=A3 w0
 unfold S.MatchAtom at hF
 refine Ac<|Be (cs:=[u1,u2]) hC0 z z z fun b1 w1 hC1 hB1 hN1=>Be (cs:=[(I a2.1),u3]) hC1 z z z fun b2 w2 hC2 hB2 hN2=>Be (cs:=[(I a3.1),u4]) hC2 z z z fun b3 w3 hC3 hB3 hN3=>Bq hC3 zero149 z z fun b4 w4 hC4 hB4 hN4=>Af z z<|Aa<|Ac<|Az [u1,u2] hC4 3 z z z B1 Ba z z<|be hF fun x1 hr1 hF=>AA Tryz.call212 z z (c_S_l4Copy (a1.1,a1.2) u1 (g1.now hC4.keep) u2 (g2.now hC4.keep) x1 hr1)<|?_
 rintro v1 w5 ⟨hB5,F1,hv1,hn1,hb1⟩
 have hC5:=hC4.push hB5 (A:=Ad v1 x1) hv1 hn1 hb1
 obtain ⟨v2,v3,rfl,hC6⟩:=st149_own hC5
 refine Bq hC6 zero149 z z fun b5 w6 hC7 hB6 hN5=>AE (cs':=[v2,v3]) (new:=[v2,v3]) hC7 0 z z (fac (Br (hC7.ro 1 z))<|fac (Br (hC7.ro 2 z))<|fa0) z Ba z z fun w7 hC8 hKp1=>?_
 try dsimp only [List.set] at hC8
 have hk1:=AV ((((((Ao hB1).then hB2).then hB3).then hB4).then hB5).then hB6) (Bl (((((Ao hB1).then hB2).then hB3).then hB4).then hB5).size hN5) hKp1
 have hk2:=AV (((((Ao hB2).then hB3).then hB4).then hB5).then hB6) (Bl ((((Ao hB2).then hB3).then hB4).then hB5).size hN5) hKp1
 have hk3:=AV ((((Ao hB3).then hB4).then hB5).then hB6) (Bl (((Ao hB3).then hB4).then hB5).size hN5) hKp1
 have hk4:=AV (((Ao hB4).then hB5).then hB6) (Bl ((Ao hB4).then hB5).size hN5) hKp1
 have hk5:=AV ((Ao hB5).then hB6) (Bl (Ao hB5).size hN5) hKp1
 have hk6:=AV (Ao hB6) hN5 hKp1
 refine Aa<|A0<|be hF fun r1 hr2 hF=>B9 (fun l w=>∃x2:Bool,x2=r1∧l=[(4,(ptr b2 0)),(5,(ptr b3 0)),(6,(ptr b4 0)),(8,(ptr b5 0)),(35,(.bool x2))]∧Below w7.heap.size w7 w∧Ctx [] w0 w [Ah b5 [v2,v3],Ad v2 x1.1,Ad v3 x1.2,Ah b4 [(.slice none 0 0),(.slice none 0 0)],Ah b3 [(I a3.1),u4],Ah b2 [(I a2.1),u3]]) ?_ ?_
 ·refine AL<|fd AY A7 z z z z<|Al hC8 5 z z AU z z<|fd AB A7 z z z z<|Al hC8 4 z z AU z z<|BQ z z z<|Ae z z<|wk hr2 (fun hr2=>?_) fun hr2=>?_
  ·refine gs z z z z<|gs z z z z<|gs z z z z<|gs z z z z<|gs z z z z<|gs z z z z<|gs z z z z<|AJ z z z<|Ae z z<|gs z z z z<|gs z z z z<|gs z z z z<|gs z z z z<|gs z z z z<|gs z z z z<|gs z z z z<|AJ z z z<|Aa<|?_
   have hC16:=hC8.f5.f5.f5.f5.f5.f5.h6
   exact nS<|⟨true,Ab hr2,z,(Aj _ _),hC16⟩
  refine Ai z z<|fd AY Aq z z z z<|Ai z z<|Al hC8 5 z z Au z z<|Ai z z<|AH Ag g3 z z<|Ai z z<|fd AB Aq z z z z<|Ai z z<|Al hC8 4 z z Au z z<|Ai z z<|AH Ag g4 z z<|Ai z z<|BQ z z z<|AK z z z<|Ae z z<|wk hr2 (fun hr2=>?_) fun hr2=>?_
  ·refine gs z z z z<|gs z z z z<|gs z z z z<|gs z z z z<|gs z z z z<|gs z z z z<|gs z z z z<|AJ z z z<|Aa<|?_
   have hC23:=hC8.f5.f5.f5.f5.f5.f5.h6
   exact nS<|⟨true,Ab hr2,z,(Aj _ _),hC23⟩
  refine Ai z z<|fd Bc Aq z z z z<|Ai z z<|Al hC8 6 z z Au z z<|Ai z z<|AH Ag g1 z z<|Ai z z<|fd Bc Aq z z z z<|Ai z z<|Al hC8 6 z z Au z z<|Ai z z<|AH Ag g2 z z<|Ai z z<|BQ z z z<|AK z z z<|Aa<|?_
  have hC30:=hC8.f5.f5.f5.f5.f5.f5.h6
  exact nS<|⟨(!decide ((List.length a1.1:Int)=(List.length a1.2:Int))),Ab hr2,z,(Aj _ _),hC30⟩
 rintro _ w9 ⟨x2,rfl,rfl,hB7,hC9⟩
 refine wc hF z (fun hF=>?_) fun hF=>?_
 ·refine Ac<|B4 (vs:=[]) z z z built149<|AE (cs':=[(.slice none 0 0),(.slice none 0 0)]) (new:=[(.slice none 0 0),(.slice none 0 0)]) hC9 3 z z (fac z<|fac z<|fa0) z Ba z z fun w10 hC31 hKp2=>?_
  try dsimp only [List.set] at hC31
  have hk7:=AV (hk1.then hB7) (Bl (((Ao hB1).then hB2).then hB3).size hN4) hKp2
  have hk8:=AV (hk2.then hB7) (Bl ((Ao hB2).then hB3).size hN4) hKp2
  have hk9:=AV (hk3.then hB7) (Bl (Ao hB3).size hN4) hKp2
  have hk10:=AV (hk4.then hB7) hN4 hKp2
  refine Af z z<|Aa<|AF<|Ax<|?_
  obtain rfl:=Ab hF
  refine De z (rv_cell_agg (cs':=[(.slice none 0 0),(.slice none 0 0)]) hC31 (i:=3) z z z B1 Ba z) (rv_tmp z) ?_
  have hC32:=hC31.triv (BN (false))
  have hC34:=hC32.triv (nil_val (α:=Int))
  have hC35:=hC34.triv (nil_val (α:=Int))
  have hC33:=Ce (.slice none 0 0) ([]) (.slice none 0 0) ([]) hC35
  exact ⟨_,z,res2_of hC33⟩
 refine A5<|Am<|A0<|Ac<|Af z z<|Aa<|be hF fun r2 hr3 hF=>wN (fun l w=>∃v8:Value,∃x8:Ta,∃v9:Value,∃x9:Ta,∃v10:Value,∃x10:Ta,∃v11:Value,∃x11:Ta,.inl (x8,x9,x10,x11)=r2∧l=[(6,(ptr b4 0)),(8,(ptr b5 0))]∧Ctx [] w0 w [Ad v11 x11,Ad v10 x10,Ah b5 [v8,v9],Ad v8 x8,Ad v9 x9,Ah b4 [v10,v11]]) ?_ ?_
 ·refine A4 ?_
  have hC71:=hC9.triv (nil_val (α:=Int))
  have hC72:=hC71.triv (nil_val (α:=Int))
  have hC80:=hC72.f7.f7.f7.f7.f7.f7.f6.f7
  refine wT<|Bj (fun k l w=>∃v4:Value,∃x3:Ta,∃v5:Value,∃x4:Ta,∃v6:Value,∃x5:Ta,∃v7:Value,∃x6:Ta,∃x7:Int,l=[(4,(ptr b2 0)),(5,(ptr b3 0)),(6,(ptr b4 0)),(8,(ptr b5 0)),(9,(I x7))]∧Ctx [] w0 w [Ad v7 x6,Ad v6 x5,Ah b5 [v4,v5],Ad v4 x3,Ad v5 x4,Ah b4 [v6,v7],Ah b3 [(I a3.1),u4],Ah b2 [(I a2.1),u3]]∧S.MatchAtom_l1 a2 a3 k x3 x4 x5 x6 x7=some r2) FUEL ⟨v2,x1.1,v3,x1.2,(.slice none 0 0),[],(.slice none 0 0),[],0,z,hC80,hr3⟩<|?_
  clear hr3
  rintro k1 _ w11 ⟨v4,x3,v5,x4,v6,x5,v7,x6,x7,rfl,hC36,hL1⟩
  obtain _|k1:=k1<;>rw [S.MatchAtom_l1] at hL1
  ·cases hL1
  refine A0<|Ac<|Ae z z<|fd AY Aq z z z z<|Al hC36 7 z z Au z z<|AH Ag g3 z z<|AZ z z z<|Aa<|wc hL1 z (fun hL1=>?_) fun hL1=>?_
  ·refine A5<|Am<|A0<|A4<|A0<|W_drawn 8 z hmix fun w12 hB9=>have hC37:=hC36.grow hB9;tf 1 AY Aq z z z z z<|tm 3 z z z<|be hL1 fun x12 hx1 hL1=>wAS (l':=[(4,(ptr b2 0)),(5,(ptr b3 0)),(6,(ptr b4 0)),(8,(ptr b5 0)),(9,(I x7)),(37,(I x7)),(38,(ptr b2 1)),(39,u3),(40,(I (List.length a2.2:Int))),(41,(.bool (decide (x7 < (List.length a2.2:Int))))),(45,(ptr b2 1)),(47,(I x7))]) ⟨z,z,z,z,z,z,z,z,z,z,z,z,A6⟩<|Bg [⟨0,[],fun vs=>AQ (.agg #[v4,v5]),[]⟩,⟨2,[],fun vs=>AQ u3,[]⟩,⟨4,[],fun vs=>Cd [] w0 x12,[]⟩,⟨5,[],fun vs=>AQ (I x12),[]⟩] [[],[],[2],[4]] 2 z (by kernel_rfl) (by kernel_rfl) z ?_ ?_
   ·refine An z ?_ ?_
    ·intro w13 hB10
     refine At<|⟨_,z,?_⟩
     exact Az [v4,v5] (hC37.grow hB10) 2 z z z B1 Ba z z<|Aa<|A1 (Aj _ _) z z ⟨z,z⟩
    refine An z ?_ ?_
    ·intro w13 hB10
     refine At<|⟨_,z,?_⟩
     exact Al (hC37.grow hB10) 7 z z Au z z<|Aa<|A1 (Aj _ _) z z ⟨z,z⟩
    refine An z ?_ ?_
    ·intro w13 hB10
     refine AG z z z ?_
     rintro _ _ ⟨rfl,rfl⟩ _
     refine At<|⟨_,z,?_⟩
     exact A9 Ag ty3 g3 hx1 z z z fun b6 o1 h1=>Aa<|A1 (Aj _ _) z z ⟨z,_,_,z,h1⟩
    refine An z ?_ ?_
    ·intro w13 hB10
     refine AG z z z ?_
     rintro _ _ ⟨rfl,b6,o1,rfl,h1⟩ _
     refine At<|⟨_,z,?_⟩
     refine AD ty3 h1 (hC37.keep.then hB10) z z (fun v12 h2=>?_)
     obtain rfl:=Bo h2
     exact Aa<|A1 (Aj _ _) z z ⟨z,z⟩
    exact AX
   intro w14 hB11
   refine Ap z z z ?_
   rintro _ _ ⟨rfl,rfl⟩
   refine Ap z z z ?_
   rintro _ _ ⟨rfl,rfl⟩
   refine Ap z z z ?_
   rintro _ _ ⟨rfl,b6,o1,rfl,h1⟩
   refine Ap z z z ?_
   rintro _ _ ⟨rfl,rfl⟩
   refine Bm fun hn2 hb2=>have hC38:=hC37.grow hB11;be hL1 fun x13 hr4 hL1=>oe 6 z<|ci Tryz.call127 z z (c_S_ValueOf (x3,x4) v4 ((hC38.ro 3 z).now (Ay _ _)) v5 ((hC38.ro 4 z).now (Ay _ _)) x12 x13 hr4) fun w15 hB12=>have hC39:=hC38.grow hB12;Aa<|ta 7 z z z<|dn<|Am<|be hL1 fun r3 hr5 hL1=>B9 (fun l w=>∃x14:Bool,x14=r3∧l=[(4,(ptr b2 0)),(5,(ptr b3 0)),(6,(ptr b4 0)),(8,(ptr b5 0)),(9,(I x7)),(10,(I x13)),(66,(.bool x14))]∧Below w15.heap.size w15 w∧Ctx [] w0 w [Ad v7 x6,Ad v6 x5,Ah b5 [v4,v5],Ad v4 x3,Ad v5 x4,Ah b4 [v6,v7],Ah b3 [(I a3.1),u4],Ah b2 [(I a2.1),u3]]) ?_ ?_
   ·refine W_drawn 16 z hmix fun w17 hB14=>have hC41:=hC39.grow hB14;tf 0 AY Aq z z z z z<|tm 2 z z z<|oe 1 z<|Al hC41 7 z z Au z z<|Aa<|be hr5 fun x15 hx2 hr5=>tk 3 z z (B5 Ag ty3 g3 hx2 z z)<|A9 Ag ty3 g3 hx2 z z z fun b7 o2 h3=>Aa<|oe 4 z<|AD ty3 h3 hC41.keep z z fun v13 h4=>?_
    obtain rfl:=Bo h4
    refine Aa<|be hr5 fun x16 hr6 hr5=>oe 5 z<|cb CU z z (c_S_IsVar x15 x16 hr6) fun w18 hB15=>have hC42:=hC41.grow hB15;Aa<|tm 6 z z z<|BJ (fun hc5=>?_) (fun hc5=>?_)
    ·replace hr5:=Cm hr5 hc5
     refine tg 8 z z z z (BC AY z z (fun w=>⟨_,Aq w⟩) z)<|Ai z z<|fd AY Aq z z z z<|Aa<|tn 10 z z z z z<|be hr5 fun x17 hx3 hr5=>wAS (l':=[(4,(ptr b2 0)),(5,(ptr b3 0)),(6,(ptr b4 0)),(8,(ptr b5 0)),(9,(I x7)),(10,(I x13)),(37,(I x7)),(38,(ptr b2 1)),(39,u3),(40,(I (List.length a2.2:Int))),(41,(.bool (decide (x7 < (List.length a2.2:Int))))),(44,(.agg #[v4,v5])),(45,(ptr b2 1)),(46,u3),(47,(I x7)),(48,(ptr b6 o1)),(49,(I x12)),(50,(I x13)),(51,(ptr b2 1)),(52,u3),(53,(I x7)),(54,(ptr b7 o2)),(55,(I x15)),(56,(.bool x16)),(57,(.bool true)),(59,(ptr b2 1)),(61,(I x7))]) ⟨z,z,z,z,z,z,z,z,z,z,z,z,z,z,z,z,z,z,z,z,z,z,z,z,z,z,z,A6⟩<|Bg [⟨7,[],fun vs=>AQ (.agg #[v4,v5]),[]⟩,⟨9,[],fun vs=>AQ u3,[]⟩,⟨11,[],fun vs=>Cd [] w0 x17,[]⟩,⟨12,[],fun vs=>AQ (I x17),[]⟩] [[],[],[9],[11]] 3 z (by kernel_rfl) (by kernel_rfl) z ?_ ?_
     ·refine An z ?_ ?_
      ·intro w19 hB16
       refine At<|⟨_,z,?_⟩
       exact Ai z z<|Az [v4,v5] (hC42.grow hB16) 2 z z z B1 Ba z z<|Aa<|A1 (Aj _ _) z z ⟨z,z⟩
      refine An z ?_ ?_
      ·intro w19 hB16
       refine At<|⟨_,z,?_⟩
       exact Ai z z<|Al (hC42.grow hB16) 7 z z Au z z<|Aa<|A1 (Aj _ _) z z ⟨z,z⟩
      refine An z ?_ ?_
      ·intro w19 hB16
       refine AG z z z ?_
       rintro _ _ ⟨rfl,rfl⟩ _
       refine At<|⟨_,z,?_⟩
       exact Ai z z<|A9 Ag ty3 g3 hx3 z z z fun b8 o3 h5=>Aa<|A1 (Aj _ _) z z ⟨z,_,_,z,h5⟩
      refine An z ?_ ?_
      ·intro w19 hB16
       refine AG z z z ?_
       rintro _ _ ⟨rfl,b8,o3,rfl,h5⟩ _
       refine At<|⟨_,z,?_⟩
       refine Ai z z<|AD ty3 h5 (hC42.keep.then hB16) z z fun v14 h6=>?_
       obtain rfl:=Bo h6
       exact Aa<|A1 (Aj _ _) z z ⟨z,z⟩
      exact AX
     intro w20 hB17
     refine Ap z z z ?_
     rintro _ _ ⟨rfl,rfl⟩
     refine Ap z z z ?_
     rintro _ _ ⟨rfl,rfl⟩
     refine Ap z z z ?_
     rintro _ _ ⟨rfl,b8,o3,rfl,h5⟩
     refine Ap z z z ?_
     rintro _ _ ⟨rfl,rfl⟩
     exact Bm fun hn3 hb3=>have hC43:=hC42.grow hB17;be hr5 fun x18 hr7 hr5=>oe 13 z<|Ai z z<|cb Tryz.call213 z z (c_S_l4Bound (x3,x4) v4 ((hC43.ro 3 z).now (Ay _ _)) v5 ((hC43.ro 4 z).now (Ay _ _)) x17 x18 hr7) fun w21 hB18=>have hC44:=hC43.grow hB18;Aa<|tg 14 z z z z (Cw z)<|Ai z z<|Bv z z<|Aa<|tp 15 z z z z<|dn<|nS<|⟨(!x18),Ab hr5,z,((((Ao hB14).then hB15).then hB17).then hB18).below,hC44⟩
    replace hr5:=Cn hr5 hc5
    exact sk 7 z z z z z<|sk 8 z z z z z<|sk 9 z z z z z<|sk 10 z z z z z<|sk 11 z z z z z<|sk 12 z z z z z<|sk 13 z z z z z<|sk 14 z z z z z<|tq 15 z z z z<|dn<|nS<|⟨false,Ab hr5,z,((Ao hB14).then hB15).below,hC42⟩
   rintro _ w16 ⟨x14,rfl,rfl,hB13,hC40⟩
   refine wc hL1 z (fun hL1=>?_) fun hL1=>?_
   ·refine W_drawn 13 z hmix fun w22 hB19=>have hC45:=hC40.grow hB19;tf 1 AY Aq z z z z z<|tm 3 z z z<|tf 6 AB Aq z z z z z<|tm 8 z z z<|be hL1 fun x19 hx4 hL1=>be hL1 fun x20 hx5 hL1=>wAS (l':=[(4,(ptr b2 0)),(5,(ptr b3 0)),(6,(ptr b4 0)),(8,(ptr b5 0)),(9,(I x7)),(10,(I x13)),(66,(.bool x14)),(68,(ptr b2 1)),(70,(I x7)),(73,(ptr b3 1)),(75,(I x7))]) ⟨z,z,z,z,z,z,z,z,z,z,z,A6⟩<|Bg [⟨0,[],fun vs=>AQ (.agg #[v4,v5]),[]⟩,⟨2,[],fun vs=>AQ u3,[]⟩,⟨4,[],fun vs=>Cd [] w0 x19,[]⟩,⟨5,[],fun vs=>AQ (I x19),[]⟩,⟨7,[],fun vs=>AQ u4,[]⟩,⟨9,[],fun vs=>Cd [] w0 x20,[]⟩,⟨10,[],fun vs=>AQ (I x20),[]⟩] [[],[],[2],[4],[],[7],[9]] 2 z (by kernel_rfl) (by kernel_rfl) z ?_ ?_
    ·refine An z ?_ ?_
     ·intro w23 hB20
      refine At<|⟨_,z,?_⟩
      exact Az [v4,v5] (hC45.grow hB20) 2 z z z B1 Ba z z<|Aa<|A1 (Aj _ _) z z ⟨z,z⟩
     refine An z ?_ ?_
     ·intro w23 hB20
      refine At<|⟨_,z,?_⟩
      exact Al (hC45.grow hB20) 7 z z Au z z<|Aa<|A1 (Aj _ _) z z ⟨z,z⟩
     refine An z ?_ ?_
     ·intro w23 hB20
      refine AG z z z ?_
      rintro _ _ ⟨rfl,rfl⟩ _
      refine At<|⟨_,z,?_⟩
      exact A9 Ag ty3 g3 hx4 z z z fun b9 o4 h7=>Aa<|A1 (Aj _ _) z z ⟨z,_,_,z,h7⟩
     refine An z ?_ ?_
     ·intro w23 hB20
      refine AG z z z ?_
      rintro _ _ ⟨rfl,b9,o4,rfl,h7⟩ _
      refine At<|⟨_,z,?_⟩
      refine AD ty3 h7 (hC45.keep.then hB20) z z (fun v15 h8=>?_)
      obtain rfl:=Bo h8
      exact Aa<|A1 (Aj _ _) z z ⟨z,z⟩
     refine An z ?_ ?_
     ·intro w23 hB20
      refine At<|⟨_,z,?_⟩
      exact Al (hC45.grow hB20) 6 z z Au z z<|Aa<|A1 (Aj _ _) z z ⟨z,z⟩
     refine An z ?_ ?_
     ·intro w23 hB20
      refine AG z z z ?_
      rintro _ _ ⟨rfl,rfl⟩ _
      refine At<|⟨_,z,?_⟩
      exact A9 Ag ty3 g4 hx5 z z z fun b10 o5 h9=>Aa<|A1 (Aj _ _) z z ⟨z,_,_,z,h9⟩
     refine An z ?_ ?_
     ·intro w23 hB20
      refine AG z z z ?_
      rintro _ _ ⟨rfl,b10,o5,rfl,h9⟩ _
      refine At<|⟨_,z,?_⟩
      refine AD ty3 h9 (hC45.keep.then hB20) z z (fun v16 h10=>?_)
      obtain rfl:=Bo h10
      exact Aa<|A1 (Aj _ _) z z ⟨z,z⟩
     exact AX
    intro w24 hB21
    refine Ap z z z ?_
    rintro _ _ ⟨rfl,rfl⟩
    refine Ap z z z ?_
    rintro _ _ ⟨rfl,rfl⟩
    refine Ap z z z ?_
    rintro _ _ ⟨rfl,b9,o4,rfl,h7⟩
    refine Ap z z z ?_
    rintro _ _ ⟨rfl,rfl⟩
    refine Ap z z z ?_
    rintro _ _ ⟨rfl,rfl⟩
    refine Ap z z z ?_
    rintro _ _ ⟨rfl,b10,o5,rfl,h9⟩
    refine Ap z z z ?_
    rintro _ _ ⟨rfl,rfl⟩
    refine Bm fun hn4 hb4=>have hC46:=hC45.grow hB21;be hL1 fun x21 hr8 hL1=>oe 11 z<|AA Tryz.call214 z z (c_S_l4Bind (x3,x4) v4 ((hC46.ro 3 z).now (Ay _ _)) v5 ((hC46.ro 4 z).now (Ay _ _)) x19 x20 x21 hr8)<|?_
    rintro v17 w25 ⟨hB22,F2,hv5,hn5,hb5⟩
    have hC47:=hC46.push hB22 (A:=Ad v17 x21) hv5 hn5 hb5
    obtain ⟨v18,v19,rfl,hC48⟩:=st149_own hC47
    refine Aa<|oe 12 z<|AE (cs':=[v18,v19]) (new:=[v18,v19]) hC48 4 z z (fac (Br (hC48.ro 0 z))<|fac (Br (hC48.ro 1 z))<|fa0) z Ba z z fun w26 hC49 hKp3=>?_
    try dsimp only [List.set] at hC49
    exact Aa<|dn<|AN<|Am<|AL<|Ae z z<|AW z z z<|Af z z<|Aa<|have hC50:=hC49.f9;have hC51:=hC50.f9;have hC52:=hC51.f9;have hC53:=hC52.f4;have hC54:=hC53.f4;have hC55:=hC54.f7;have hC56:=hC55.f7;have hC57:=hC56.f7;have hC58:=hC57.h8;nS<|⟨k1,Aw _,v18,x21.1,v19,x21.2,v6,x5,v7,x6,w64 (x7+1),z,hC58,hL1⟩
   refine Ac<|Ae z z<|fd AB Aq z z z z<|Al hC40 6 z z Au z z<|Ae z z<|be hL1 fun x22 hx6 hL1=>A9 Ag ty3 g4 hx6 z z z fun b11 o6 h11=>AD ty3 h11 hC40.keep z z fun v20 h12=>?_
   obtain rfl:=Bo h12
   refine BQ z z z<|Aa<|wc hL1 z (fun hL1=>?_) fun hL1=>?_
   ·refine Ac<|B4 (vs:=[]) z z z built149<|AE (cs':=[(.slice none 0 0),(.slice none 0 0)]) (new:=[(.slice none 0 0),(.slice none 0 0)]) hC40 5 z z (fac z<|fac z<|fa0) z Ba z z fun w27 hC59 hKp4=>?_
    try dsimp only [List.set] at hC59
    refine Af z z<|Aa<|AF<|AT<|Ax<|Ax<|AT<|Ax<|Ax<|?_
    obtain rfl:=Ab hL1
    dsimp only at hF
    obtain rfl:=Ab hF
    refine De z (rv_cell_agg (cs':=[(.slice none 0 0),(.slice none 0 0)]) hC59 (i:=5) z z z B1 Ba z) (rv_tmp z) ?_
    have hC60:=hC59.triv (BN (false))
    have hC62:=hC60.triv (nil_val (α:=Int))
    have hC63:=hC62.triv (nil_val (α:=Int))
    have hC61:=Ce (.slice none 0 0) ([]) (.slice none 0 0) ([]) hC63
    exact ⟨_,z,res2_of hC61⟩
   exact A5<|AN<|Am<|AL<|Ae z z<|AW z z z<|Af z z<|Aa<|nS<|⟨k1,Aw _,v4,x3,v5,x4,v6,x5,v7,x6,w64 (x7+1),z,hC40,hL1⟩
  refine Bi (A2 (A2 (AM ?_)))
  have hC70:=hC36.f5.f5.f5.f5.f5.f5.h6
  exact nS<|⟨v4,x3,v5,x4,v6,x5,v7,x6,Ab hL1,z,hC70⟩
 rintro _ w28 ⟨v8,x8,v9,x9,v10,x10,v11,x11,rfl,rfl,hC81⟩
 try dsimp only at hF
 refine Ac<|Az [v8,v9] hC81 2 z z z B1 Ba z z<|AE (cs':=[v8,v9]) (new:=[v8,v9]) hC81 5 z z (fac (Br (hC81.ro 3 z))<|fac (Br (hC81.ro 4 z))<|fa0) z Ba z z fun w29 hC82 hKp5=>?_
 try dsimp only [List.set] at hC82
 refine Af z z<|Aa<|AF<|?_
 obtain rfl:=Ab hF
 refine De z (rv_cell_agg (cs':=[v8,v9]) hC82 (i:=5) z z z B1 Ba z) (rv_tmp z) ?_
 have hC83:=hC82.triv (BN (true))
 have hC86:=hC83.f5.f5
 have hC84:=Ce v8 x8 v9 x9 hC86
 exact ⟨_,z,res2_of hC84⟩
theorem c_S_l4Extend {w0:World} (a1:Tk) (u1:Value) (g1:RO [] w0 u1 a1) (a2:Tb) (u2:Value) (g2:RO [] w0 u2 a2.2) (a3:Tc) (u3:Value) (g3:RO [] w0 u3 a3) (rr:Tk) (hF:S.l4Extend a1 a2 a3=some rr) :
 Calls Tryz.prog 128 [u1,(.agg #[(I a2.1),u2]),u3].toArray w0 fun e w'=>∃v,e=.returned v∧Res w0 rr v w':=by
 refine Av Tryz.func128 z z ?_
 have hC0:=A3 w0
 unfold S.l4Extend at hF
 refine Ac<|Be (cs:=[(I a2.1),u2]) hC0 z z z fun b1 w1 hC1 hB1 hN1=>Af z z<|Aa<|Ac<|Ar (vs:=[]) hC1 Bz ty149 z z z z (by simp) z z fun b2 w2 hC2 hB2=>?_
 have hC5:=hC2.rowE (α:=Th)
 refine Af z z<|Aa<|A0<|Ac<|Af z z<|Aa<|be hF fun r1 hr1 hF=>wN (fun l w=>∃v2:Value,∃x3:Tk,x3=r1∧l=[(7,v2)]∧Ctx [] w0 w [Ad v2 x3]) ?_ ?_
 ·refine A4<|wT<|Bj (fun k l w=>∃v1:Value,∃x1:Tk,∃x2:Int,l=[(0,u1),(2,u3),(4,(ptr b1 0)),(7,v1),(8,(I x2))]∧Ctx [] w0 w [Ad v1 x1,Ah b1 [(I a2.1),u2]]∧S.l4Extend_l1 a1 a3 a2 k x1 x2=some r1) FUEL ⟨(.slice (some ⟨b2,0,none⟩) 0 0),([]:List Th),0,z,hC5,hr1⟩<|?_
  clear hr1
  rintro k1 _ w3 ⟨v1,x1,x2,rfl,hC6,hL1⟩
  obtain _|k1:=k1<;>rw [S.l4Extend_l1] at hL1
  ·cases hL1
  refine A0<|Ac<|Ae z z<|Ae z z<|AH Bz g1 z z<|AZ z z z<|Aa<|wc hL1 z (fun hL1=>?_) fun hL1=>?_
  ·refine A5<|Am<|A0<|A4<|Ac<|Af z z<|Aa<|be hL1 fun r2 hr2 hL1=>wB (fun l w=>∃v4:Value,∃x6:Tk,x6=r2∧l=[(0,u1),(2,u3),(4,(ptr b1 0)),(7,v4),(8,(I x2))]∧Ctx [] w0 w [Ad v4 x6,Ah b1 [(I a2.1),u2]]) ?_ ?_
   ·refine A4<|wT<|Bj (fun k l w=>∃v3:Value,∃x4:Tk,∃x5:Int,l=[(0,u1),(2,u3),(4,(ptr b1 0)),(7,v3),(8,(I x2)),(9,(I x5))]∧Ctx [] w0 w [Ad v3 x4,Ah b1 [(I a2.1),u2]]∧S.l4Extend_l2 a3 a1 x2 a2 k x4 x5=some r2) FUEL ⟨v1,x1,0,z,hC6,hr2⟩<|?_
    clear hr2
    rintro k2 _ w4 ⟨v3,x4,x5,rfl,hC7,hL2⟩
    obtain _|k2:=k2<;>rw [S.l4Extend_l2] at hL2
    ·cases hL2
    refine A0<|Ac<|Ae z z<|Ae z z<|AH Ak g3 z z<|AZ z z z<|Aa<|wc hL2 z (fun hL2=>?_) fun hL2=>?_
    ·refine A5<|Am<|A0<|A4<|be hL2 fun r3 hr3 hL2=>B9 (fun l w=>∃x7:Bool,∃b3:Nat,∃v5:Value,∃x8:Ta,∃v6:Value,∃x9:Ta,(x7,x8,x9)=r3∧l=[(0,u1),(2,u3),(4,(ptr b1 0)),(7,v3),(8,(I x2)),(9,(I x5)),(10,(ptr b3 0)),(11,(.bool x7))]∧Ctx [] w0 w [Ah b3 [v5,v6],Ad v5 x8,Ad v6 x9,Ad v3 x4,Ah b1 [(I a2.1),u2]]) ?_ ?_
     ·refine W_drawn 16 z hmix fun w6 hB6=>have hC9:=hC7.grow hB6;tm 0 z z z<|tm 1 z z z<|be hr3 fun x10 hx1 hr3=>tk 2 z z (B5 Bz ty149 g1 hx1 z z)<|A9 Bz ty149 g1 hx1 z z z fun b4 o1 h1=>Aa<|tm 5 z z z<|tm 6 z z z<|be hr3 fun x11 hx2 hr3=>tk 7 z z (B5 Ak ty77 g3 hx2 z z)<|A9 Ak ty77 g3 hx2 z z z fun b5 o2 h2=>Aa<|be hr3 fun x12 hr4 hr3=>wAS (l':=[(0,u1),(2,u3),(4,(ptr b1 0)),(7,v3),(8,(I x2)),(9,(I x5)),(19,(I x5)),(20,u3),(21,(I (List.length a3:Int))),(22,(.bool (decide (x5 < (List.length a3:Int))))),(26,u1),(27,(I x2)),(28,(ptr b4 o1)),(31,u3),(32,(I x5)),(33,(ptr b5 o2))]) ⟨z,z,z,z,z,z,z,z,z,z,z,z,z,z,z,z,A6⟩<|WA_postsO [⟨3,[],fun vs=>Cj [] w0 x10,[]⟩,⟨4,[],fun vs=>AQ (.agg #[(I a2.1),u2]),[]⟩,⟨8,[],fun vs=>Cj [] w0 x11,[]⟩,⟨9,[],fun vs=>PW.own2 x12.1 x12.2,[]⟩,⟨10,[35],fun vs=>AQ (vs.getD 0 undef),[]⟩,⟨11,[25],fun vs=>PW.comp (vs.getD 0 undef) 0,[]⟩,⟨12,[25],fun vs=>PW.comp (vs.getD 0 undef) 1,[]⟩,⟨13,[],fun vs=>PW.box [(.slice none 0 0),(.slice none 0 0)],[]⟩] [[],[],[],[3,4,8],[9],[9,10],[9,10],[]] [12] 2 z (by kernel_rfl) (by kernel_rfl) ?_ ⟨?_,?_,A6⟩
      ·refine An z ?_ ?_
       ·intro w10 hB9
        refine At<|⟨_,z,?_⟩
        exact AD ty149 h1 (hC9.keep.then hB9) z z fun v10 h6=>Aa<|A1 (Aj _ _) z z ⟨z,h6⟩
       refine An z ?_ ?_
       ·intro w10 hB9
        refine At<|⟨_,z,?_⟩
        exact Az [(I a2.1),u2] (hC9.grow hB9) 1 z z z CH Cl z z<|Aa<|A1 (Aj _ _) z z ⟨z,z⟩
       refine An z ?_ ?_
       ·intro w10 hB9
        refine At<|⟨_,z,?_⟩
        exact AD ty77 h2 (hC9.keep.then hB9) z z fun v13 h9=>Aa<|A1 (Aj _ _) z z ⟨z,h9⟩
       refine An z ?_ ?_
       ·intro w10 hB9
        refine AG z z z ?_
        rintro v10 _ ⟨rfl,h6⟩ _
        obtain ⟨v8,v9,rfl,h4,h5⟩:=C6 h6
        refine AG z z z ?_
        rintro _ _ ⟨rfl,rfl⟩ _
        refine AG z z z ?_
        rintro v13 _ ⟨rfl,h9⟩ _
        obtain ⟨v12,rfl,h8⟩:=BE h9
        refine At<|⟨_,z,?_⟩
        refine AA Tryz.call180 z z (c_S_MatchAtom x10 v8 (h4.now (hC9.keep.then hB9)) v9 (h5.now (hC9.keep.then hB9)) (a2.1,a2.2) u2 (g2.now (hC9.keep.then hB9)) x11 v12 (h8.now (hC9.keep.then hB9)) x12 hr4) ?_
        rintro _ w7 ⟨hB7,v14,v15,F1,F2,rfl,hv1,hv2,hn1,hb1⟩
        exact Aa<|BZ (F:=F1 ++ F2) hB7 z z ⟨_,_,_,_,z,z,hv1,hv2⟩ (by simpa using hn1) (fun b h=>hb1 b (by simpa using h)) (fun b h=>by simp only [List.mem_append] at h; rcases h with h | h <;> first | exact Val.inh hv1 b h | exact Val.inh hv2 b h)
       refine An z ?_ ?_
       ·intro w10 hB9
        refine AG z z z ?_
        rintro _ _ ⟨v14,v15,F1,F2,rfl,rfl,hv1,hv2⟩ _
        obtain ⟨rfl,rfl⟩:=val_bool hv2
        obtain ⟨v16,v17,rfl,h10,h11⟩:=C6 (CI hv1)
        refine At<|⟨_,z,?_⟩
        exact Ae z z<|Aa<|A1 (Aj _ _) z z ⟨z,z⟩
       refine An z ?_ ?_
       ·intro w10 hB9
        refine AG z z z ?_
        rintro _ _ ⟨v14,v15,F1,F2,rfl,rfl,hv1,hv2⟩ _
        obtain ⟨rfl,rfl⟩:=val_bool hv2
        obtain ⟨v16,v17,rfl,h10,h11⟩:=C6 (CI hv1)
        refine AG z z z ?_
        rintro _ _ ⟨rfl,rfl⟩ _
        refine At<|⟨_,z,?_⟩
        exact Bk z z z<|Aa<|A1 (Aj _ _) z z ⟨⟨_,z,z⟩,z⟩
       refine An z ?_ ?_
       ·intro w10 hB9
        refine AG z z z ?_
        rintro _ _ ⟨v14,v15,F1,F2,rfl,rfl,hv1,hv2⟩ _
        obtain ⟨rfl,rfl⟩:=val_bool hv2
        obtain ⟨v16,v17,rfl,h10,h11⟩:=C6 (CI hv1)
        refine AG z z z ?_
        rintro _ _ ⟨rfl,rfl⟩ _
        refine At<|⟨_,z,?_⟩
        exact Bk z z z<|Aa<|A1 (Aj _ _) z z ⟨⟨_,z,z⟩,z⟩
       refine An z ?_ ?_
       ·intro w10 hB9
        refine At<|⟨_,z,?_⟩
        exact WL_alloc (A3 _) zero149 z z fun b6 w9 hC10 hB8=>Aa<|Co hC10 z z (fun F h=>⟨b6,z,h⟩)
       exact AX
      ·intro g' hg'
       obtain rfl:g'=2:=hg'
       intro w11 hB10
       refine Ap z z z ?_
       rintro v10 _ ⟨rfl,h6⟩
       obtain ⟨v8,v9,rfl,h4,h5⟩:=C6 h6
       refine Ap z z z ?_
       rintro _ _ ⟨rfl,rfl⟩
       refine Ap z z z ?_
       rintro v13 _ ⟨rfl,h9⟩
       obtain ⟨v12,rfl,h8⟩:=BE h9
       refine Ap z z z ?_
       rintro _ _ ⟨v14,v15,F1,F2,rfl,rfl,hv1,hv2⟩
       obtain ⟨rfl,rfl⟩:=val_bool hv2
       refine Ap z z z ?_
       rintro _ _ ⟨rfl,rfl⟩
       refine Ap z z z ?_
       rintro _ _ ⟨⟨_,hx3,hx4⟩,rfl⟩
       obtain rfl:=Value.tuple.inj hx3
       obtain rfl:=Ab (show (some v14:Option Value)=some _ from hx4)
       refine Ap z z z ?_
       rintro _ _ ⟨⟨_,hx5,hx6⟩,rfl⟩
       obtain rfl:=Value.tuple.inj hx5
       obtain rfl:=Ab (show (some (.bool x12.2):Option Value)=some _ from hx6)
       refine Ap z z z ?_
       rintro _ F3 ⟨b6,rfl,hv3⟩
       refine Bm ?_
       intro hn2 hb2
       have hC11:=hC9.pushL hB10 (Bs:=[Ah b6 [(.slice none 0 0),(.slice none 0 0)],Ad v14 x12.1]) (Fs:=[F3,F1]) ⟨F3,_,z,hv3,F1,_,z,hv1,z⟩ (by simpa using hn2) (fun b h=>(hb2 b (by simpa using h)).1)
       have hC12:=hC11.f1
       obtain ⟨v18,v19,rfl,hC13⟩:=st149_own hC12
       refine oe 14 z<|AE (cs':=[v18,v19]) (new:=[v18,v19]) hC13 2 z z (fac (Br (hC13.ro 0 z))<|fac (Br (hC13.ro 1 z))<|fa0) z Ba z z fun w12 hC14 hKp1=>?_
       try dsimp only [List.set] at hC14
       refine Aa<|ta 15 z z z<|dn<|?_
       have hC15:=hC14.f4
       have hC16:=hC15.f4
       have hC17:=hC16.f3
       have hC18:=hC17.f3
       have hC19:=hC18.f4
       exact nS<|⟨x12.2,b6,v18,x12.1.1,v19,x12.1.2,Ab hr3,z,hC19⟩
      intro g' hg'
      obtain rfl:g'=3:=hg'
      intro w11 hB10
      refine Ap z z z ?_
      rintro v10 _ ⟨rfl,h6⟩
      obtain ⟨v8,v9,rfl,h4,h5⟩:=C6 h6
      refine Ap z z z ?_
      rintro _ _ ⟨rfl,rfl⟩
      refine Ap z z z ?_
      rintro v13 _ ⟨rfl,h9⟩
      obtain ⟨v12,rfl,h8⟩:=BE h9
      refine Ap z z z ?_
      rintro _ _ ⟨v14,v15,F1,F2,rfl,rfl,hv1,hv2⟩
      obtain ⟨rfl,rfl⟩:=val_bool hv2
      refine Ap z z z ?_
      rintro _ _ ⟨rfl,rfl⟩
      refine Ap z z z ?_
      rintro _ _ ⟨⟨_,hx3,hx4⟩,rfl⟩
      obtain rfl:=Value.tuple.inj hx3
      obtain rfl:=Ab (show (some v14:Option Value)=some _ from hx4)
      refine Ap z z z ?_
      rintro _ F3 ⟨b6,rfl,hv3⟩
      refine Bm ?_
      intro hn2 hb2
      have hC11:=hC9.pushL hB10 (Bs:=[Ah b6 [(.slice none 0 0),(.slice none 0 0)],Ad v14 x12.1]) (Fs:=[F3,F1]) ⟨F3,_,z,hv3,F1,_,z,hv1,z⟩ (by simpa using hn2) (fun b h=>(hb2 b (by simpa using h)).1)
      have hC12:=hC11.f1
      obtain ⟨v18,v19,rfl,hC13⟩:=st149_own hC12
      refine tk 12 z z (fl_extract z z)<|Bk z z z<|Aa<|oe 14 z<|AE (cs':=[v18,v19]) (new:=[v18,v19]) hC13 2 z z (fac (Br (hC13.ro 0 z))<|fac (Br (hC13.ro 1 z))<|fa0) z Ba z z fun w12 hC14 hKp1=>?_
      try dsimp only [List.set] at hC14
      refine Aa<|ta 15 z z z<|dn<|?_
      have hC15:=hC14.f4
      have hC16:=hC15.f4
      have hC17:=hC16.f3
      have hC18:=hC17.f3
      have hC19:=hC18.f4
      exact nS<|⟨x12.2,b6,v18,x12.1.1,v19,x12.1.2,Ab hr3,z,hC19⟩
     rintro _ w5 ⟨x7,b3,v5,x8,v6,x9,rfl,rfl,hC8⟩
     try dsimp only at hL2
     refine Ac<|Ae z z<|Aa<|be hL2 fun r4 hr5 hL2=>wB (fun l w=>∃v20:Value,∃x13:Tk,x13=r4∧l=[(0,u1),(2,u3),(4,(ptr b1 0)),(7,v20),(8,(I x2)),(9,(I x5))]∧Ctx [] w0 w [Ad v20 x13,Ah b1 [(I a2.1),u2]]) ?_ ?_
     ·refine wc hr5 z (fun hr5=>?_) fun hr5=>?_
      ·refine AL<|Ae z z<|Az [v5,v6] hC8 0 z z z B1 Ba z z<|Ar (vs:=[(.agg #[v5,v6])]) hC8 Bz ty149 z z z z (fac z<|fa0) z z fun b7 w14 hC21 hB12=>?_
       have hC22:=hC21.row0 (α:=Th)
       have hC25:=hC22.f4.f4
       have hC23:=Ce v5 x8 v6 x9 hC25
       have hC26:=hC23.row1
       have hC27:=hC26.front 1 z
       dsimp only [List.eraseIdx,List.cons_append,List.nil_append,List.append_nil] at hC27
       have hC28:Ctx [] w0 w14 (Ad (.slice (some ⟨b7,0,none⟩) 1 1) ([(x8,x9)]:List Th)::[Ah b3 [v5,v6],Ad v3 x4,Ah b1 [(I a2.1),u2]]):=hC27.rowOwn (by simp [maxLen])
       refine be hr5 fun x14 hx7 hr5=>Bf hC28 1 z Bz ty149 z hx7 z z z fun v21 w15 hC29=>?_
       try dsimp only [List.set] at hC29
       refine Af z z<|Aa<|?_
       have hC33:=hC29.f2.f2.h2
       exact nS<|⟨v21,x14,Ab hr5,z,hC33⟩
      refine A5 ?_
      have hC36:=hC8.f4.f4.h2
      exact nS<|⟨v3,x4,Ab hr5,z,hC36⟩
     rintro _ w13 ⟨v20,x13,rfl,rfl,hC20⟩
     exact AL<|Ae z z<|AW z z z<|Af z z<|Aa<|nS<|⟨k2,Aw _,v20,x13,w64 (x5+1),z,hC20,hL2⟩
    refine Bi (A2 (A2 (AM ?_)))
    exact nS<|⟨v3,x4,Ab hL2,z,hC7⟩
   rintro _ w16 ⟨v4,x6,rfl,rfl,hC37⟩
   exact AL<|Ae z z<|AW z z z<|Af z z<|Aa<|nS<|⟨k1,Aw _,v4,x6,w64 (x2+1),z,hC37,hL1⟩
  refine Bi (A2 (A2 (AM ?_)))
  have hC38:=hC6.h1
  exact nS<|⟨v1,x1,Ab hL1,z,hC38⟩
 rintro _ w17 ⟨v2,x3,rfl,rfl,hC39⟩
 exact Ac<|Ae z z<|Af z z<|Aa<|AF<|rO hF z z hC39 0 z
theorem c_S_BindingsOf {w0:World} (a1:Tl) (u1:Value) (g1:RO [] w0 u1 a1.1) (u2:Value) (g2:RO [] w0 u2 a1.2) (a2:Tc) (u3:Value) (g3:RO [] w0 u3 a2) (rr:Tk) (hF:S.BindingsOf a1 a2=some rr) :
 Calls Tryz.prog 71 [(.agg #[u1,u2]),u3].toArray w0 fun e w'=>∃v,e=.returned v∧Res w0 rr v w':=by
 refine Av Tryz.func71 z z ?_
 have hC0:=A3 w0
 unfold S.BindingsOf at hF
 refine Ac<|Be (cs:=[u1,u2]) hC0 z z z fun b1 w1 hC1 hB1 hN1=>Af z z<|Aa<|Ac<|B4 (vs:=[]) z z z built149<|Ar (vs:=[(.agg #[(.slice none 0 0),(.slice none 0 0)])]) hC1 Bz ty149 z z z z (fac z<|fa0) z z fun b2 w2 hC2 hB2=>?_
 have hC3:=hC2.row0 (α:=Th)
 have hC5:=hC3.triv (nil_val (α:=Int))
 have hC6:=hC5.triv (nil_val (α:=Int))
 have hC4:=Ce (.slice none 0 0) ([]) (.slice none 0 0) ([]) hC6
 have hC7:=hC4.row1
 have hC8:=hC7.front 1 z
 dsimp only [List.eraseIdx,List.cons_append,List.nil_append,List.append_nil] at hC8
 have hC9:Ctx [] w0 w2 (Ad (.slice (some ⟨b2,0,none⟩) 1 1) ([([],[])]:List Th)::[Ah b1 [u1,u2]]):=hC8.rowOwn (by simp [maxLen])
 refine Af z z<|Aa<|A0<|Ac<|Af z z<|Aa<|be hF fun r1 hr1 hF=>wN (fun l w=>∃v2:Value,∃x3:Tk,x3=r1∧l=[(5,v2)]∧Below w2.heap.size w2 w∧Ctx [] w0 w [Ad v2 x3]) ?_ ?_
 ·refine A4<|wT<|Bj (fun k l w=>∃v1:Value,∃x1:Tk,∃x2:Int,l=[(1,u3),(2,(ptr b1 0)),(5,v1),(6,(I x2))]∧Below w2.heap.size w2 w∧Ctx [] w0 w [Ad v1 x1,Ah b1 [u1,u2]]∧S.BindingsOf_l1 a1 a2 k x1 x2=some r1) FUEL ⟨(.slice (some ⟨b2,0,none⟩) 1 1),[([],[])],0,z,(Aj _ _),hC9,hr1⟩<|?_
  clear hr1
  rintro k1 _ w3 ⟨v1,x1,x2,rfl,hB3,hC10,hL1⟩
  obtain _|k1:=k1<;>rw [S.BindingsOf_l1] at hL1
  ·cases hL1
  refine A0<|Ac<|Ae z z<|fd Bn BB z z z z<|Al hC10 1 z z BK z z<|AH By g2 z z<|AZ z z z<|Aa<|wc hL1 z (fun hL1=>?_) fun hL1=>?_
  ·refine A5<|Am<|A0<|A4<|AL<|Ae z z<|fd Bn BB z z z z<|Al hC10 1 z z BK z z<|Ae z z<|be hL1 fun x4 hx1 hL1=>A9 By ty93 g2 hx1 z z z fun b3 o1 h1=>AD ty93 h1 hC10.keep z z fun v3 h2=>?_
   obtain ⟨v4,rfl,h3⟩:=ro_st93 h2
   refine Ae z z<|be hL1 fun x5 hr2 hL1=>AA Tryz.call128 z z (c_S_l4Extend x1 v1 ((hC10.ro 0 z).now (Ay _ _)) x4 v4 (h3.now hC10.keep) a2 u3 (g3.now hC10.keep) x5 hr2)<|?_
   rintro v5 w4 ⟨hB4,F1,hv1,hn1,hb1⟩
   have hC11:=hC10.push hB4 (A:=Ad v5 x5) hv1 hn1 hb1
   exact Af z z<|Aa<|AN<|Am<|AL<|Ae z z<|AW z z z<|Af z z<|Aa<|have hC12:=hC11.f2;have hC13:=hC12.f1;have hC14:=hC13.h2;nS<|⟨k1,Aw _,v5,x5,w64 (x2+1),z,((Ao hB3).then hB4).below,hC14,hL1⟩
  refine Bi (A2 (A2 (AM ?_)))
  have hC15:=hC10.h1
  exact nS<|⟨v1,x1,Ab hL1,z,(Ao hB3).below,hC15⟩
 rintro _ w5 ⟨v2,x3,rfl,rfl,hB5,hC16⟩
 exact Ac<|Ae z z<|Af z z<|Aa<|AF<|rO hF z z hC16 0 z
theorem c_S_TrustedAnswers {w0:World} (a1:Ta) (u1:Value) (g1:RO [] w0 u1 a1) (a2:Tf) (u2:Value) (g2:RO [] w0 u2 a2) (a3:Tl) (u3:Value) (g3:RO [] w0 u3 a3.1) (u4:Value) (g4:RO [] w0 u4 a3.2) (a4:Tg) (u5:Value) (g5:RO [] w0 u5 a4) (rr:Tj) (hF:S.TrustedAnswers a1 a2 a3 a4=some rr) :
 Calls Tryz.prog 26 [u1,u2,(.agg #[u3,u4]),u5].toArray w0 fun e w'=>∃v,e=.returned v∧Res w0 rr v w':=by
 refine Av Tryz.func26 z z ?_
 have hC0:=A3 w0
 unfold S.TrustedAnswers at hF
 refine Ac<|Be (cs:=[u3,u4]) hC0 z z z fun b1 w1 hC1 hB1 hN1=>Af z z<|Aa<|A0<|Ac<|Ae z z<|Az [u3,u4] hC1 0 z z z BA B0 z z<|be hF fun x1 hr1 hF=>cb Tryz.call69 z z (c_S_IsQuery a1 u1 (g1.now hC1.keep) (a3.1,a3.2) u3 (g3.now hC1.keep) u4 (g4.now hC1.keep) x1 hr1) fun w2 hB2=>have hC2:=hC1.grow hB2;Bv z z<|Aa<|wc hF z (fun hF=>?_) fun hF=>?_
 ·refine Ac<|Ar (vs:=[]) hC2 AC ty24 z z z z (by simp) z z fun b2 w3 hC3 hB3=>?_
  have hC6:=hC3.rowE (α:=Ta)
  exact Af z z<|Aa<|AF<|Ax<|rO hF z z hC6 0 z
 refine A5<|Am<|A0<|W_drawn 9 z hmix fun w4 hB4=>have hC7:=hC2.grow hB4;tm 2 z z z<|tm 3 z z z<|tm 4 z z z<|be hF fun x2 hr2 hF=>be hF fun x3 hr3 hF=>wAS (l':=[(0,u1),(1,u2),(2,(.agg #[u3,u4])),(3,u5),(6,(ptr b1 0)),(8,(.slice none 0 0)),(9,u1),(10,(.agg #[u3,u4])),(11,(.bool x1)),(12,(.bool (!x1))),(16,u1),(17,u2),(18,u5)]) ⟨z,z,z,z,z,z,z,z,z,z,z,z,z,A6⟩<|Bg [⟨0,[],fun vs=>AQ (.agg #[u3,u4]),[]⟩,⟨1,[],fun vs=>AQ (.agg #[u3,u4]),[]⟩,⟨5,[],fun vs=>BS x2,[]⟩,⟨6,[],fun vs=>BS x3,[]⟩] [[],[],[],[1,5]] 2 z (by kernel_rfl) (by kernel_rfl) z ?_ ?_
 ·refine An z ?_ ?_
  ·intro w7 hB7
   refine At<|⟨_,z,?_⟩
   exact Az [u3,u4] (hC7.grow hB7) 0 z z z BA B0 z z<|Aa<|A1 (Aj _ _) z z ⟨z,z⟩
  refine An z ?_ ?_
  ·intro w7 hB7
   refine At<|⟨_,z,?_⟩
   exact Az [u3,u4] (hC7.grow hB7) 0 z z z BA B0 z z<|Aa<|A1 (Aj _ _) z z ⟨z,z⟩
  refine An z ?_ ?_
  ·intro w7 hB7
   refine At<|⟨_,z,?_⟩
   refine AA Tryz.call16 z z (c_S_TrustedFacts a1 u1 (g1.now (hC7.keep.then hB7)) a2 u2 (g2.now (hC7.keep.then hB7)) a4 u5 (g5.now (hC7.keep.then hB7)) x2 hr2) ?_
   rintro v1 w5 ⟨hB5,F1,hv2,hn1,hb1⟩
   exact Aa<|BZ hB5 z z hv2 hn1 hb1 (Val.inh hv2)
  refine An z ?_ ?_
  ·intro w7 hB7
   refine AG z z z ?_
   rintro _ _ ⟨rfl,rfl⟩ _
   refine AG z z z fun v1 F1 hv2 _=>At<|⟨_,z,?_⟩
   refine AA Tryz.call71 z z (c_S_BindingsOf (a3.1,a3.2) u3 (g3.now (hC7.keep.then hB7)) u4 (g4.now (hC7.keep.then hB7)) x2 v1 (CI hv2) x3 hr3) ?_
   rintro v2 w6 ⟨hB6,F2,hv3,hn2,hb2⟩
   exact Aa<|BZ hB6 z z hv3 hn2 hb2 (Val.inh hv3)
  exact AX
 intro w9 hB8
 refine Ap z z z ?_
 rintro _ _ ⟨rfl,rfl⟩
 refine Ap z z z ?_
 rintro _ _ ⟨rfl,rfl⟩
 refine Ap z z z fun v1 F1 hv2=>Ap z z z fun v2 F2 hv3=>Bm fun hn3 hb3=>?_
 have hC8:=hC7.pushL hB8 (Bs:=[Ad v2 x3,Ad v1 x2]) (Fs:=[F2,F1]) ⟨F2,_,z,hv3,F1,_,z,hv2,z⟩ (by simpa using hn3) (fun b h=>(hb3 b (by simpa using h)).1)
 refine be hF fun x4 hr4 hF=>oe 7 z<|AA Tryz.call70 z z (c_S_l4Tuples (a3.1,a3.2) u3 (g3.now hC8.keep) u4 (g4.now hC8.keep) x3 v2 ((hC8.ro 0 z).now (Ay _ _)) x4 hr4)<|?_
 rintro v3 w10 ⟨hB9,F3,hv4,hn4,hb4⟩
 have hC9:=hC8.push hB9 (A:=Ad v3 x4) hv4 hn4 hb4
 exact Aa<|ta 8 z z z<|dn<|Am<|AF<|rO hF z z hC9 0 z
theorem c_Q_FnRepairs {w0:World} (a1:Tm) (u1:Value) (g1:RO [] w0 u1 a1) (rr:Bool) (hF:Q.FnRepairs a1=some rr) :
 Calls Tryz.prog 3 [u1].toArray w0 fun e w'=>∃v,e=.returned v∧Res w0 rr v w':=by
 refine Av Tryz.func3 z z ?_
 have hC0:=A3 w0
 unfold Q.FnRepairs at hF
 refine Ac<|Af z z<|Aa<|A0<|Ac<|Ae z z<|be hF fun x1 hr1 hF=>cb Tryz.call5 z z (c_Q_big a1 u1 (g1.now hC0.keep) x1 hr1) fun w1 hB1=>have hC1:=hC0.grow hB1;Aa<|wc hF z (fun hF=>?_) fun hF=>?_
 ·exact Ac<|Af z z<|Aa<|AF<|Ax<|rB hF z z hC1
 refine A5<|Am<|Ac<|Ae z z<|be hF fun x2 hr2 hF=>AA Tryz.call6 z z (c_S_DrawSmallestRemoval a1 u1 (g1.now hC1.keep) x2 hr2)<|?_
 rintro _ w2 ⟨hB2,v1,v2,v3,F1,F2,F3,rfl,hv2,hv3,hv4,hn1,hb1⟩
 have hC2:=hC1.pushL hB2 (Bs:=[Ad v1 x2.1,Ad v2 x2.2.1,Ad v3 x2.2.2]) (Fs:=[F1,F2,F3]) ⟨F1,_,z,hv2,F2,_,z,hv3,F3,_,z,hv4,z⟩ (by simpa using hn1) (fun b h=>hb1 b (by simpa using h))
 refine Ae z z<|Bk z z z<|Bk z z z<|Bk z z z<|Af z z<|Af z z<|Af z z<|Aa<|Ac<|Ae z z<|Ae z z<|Ae z z<|be hF fun x3 hr3 hF=>AA Tryz.call7 z z (c_M_SmallestRemoval x2.1 v1 ((hC2.ro 0 z).now (Ay _ _)) x2.2.1 v2 ((hC2.ro 1 z).now (Ay _ _)) x2.2.2 v3 ((hC2.ro 2 z).now (Ay _ _)) x3 hr3)<|?_
 rintro _ w3 ⟨hB3,v4,v5,F4,F5,rfl,hv5,hv6,hn2,hb2⟩
 obtain ⟨rfl,rfl⟩:=val_bool hv6
 have hC3:=hC2.pushL hB3 (Bs:=[Ad v4 x3.1]) (Fs:=[F4]) ⟨F4,_,z,hv5,z⟩ (by simpa using hn2) (fun b h=>hb2 b (by simpa using h))
 refine Ae z z<|Bk z z z<|Bk z z z<|Af z z<|Af z z<|Aa<|Ac<|Ae z z<|Ae z z<|Ae z z<|be hF fun x4 hr4 hF=>AA Tryz.call8 z z (c_S_SmallestRemoval x2.1 v1 ((hC3.ro 1 z).now (Ay _ _)) x2.2.1 v2 ((hC3.ro 2 z).now (Ay _ _)) x2.2.2 v3 ((hC3.ro 3 z).now (Ay _ _)) x4 hr4)<|?_
 rintro _ w4 ⟨hB4,v6,v7,F6,F7,rfl,hv7,hv8,hn3,hb3⟩
 obtain ⟨rfl,rfl⟩:=val_bool hv8
 have hC4:=hC3.pushL hB4 (Bs:=[Ad v6 x4.1]) (Fs:=[F6]) ⟨F6,_,z,hv7,z⟩ (by simpa using hn3) (fun b h=>hb3 b (by simpa using h))
 refine Ae z z<|Bk z z z<|Bk z z z<|Af z z<|Af z z<|Aa<|Ac<|Ae z z<|Ae z z<|Ae z z<|be hF fun x5 hr5 hF=>AA Tryz.call9 z z (c_M_AllRemovals x2.1 v1 ((hC4.ro 2 z).now (Ay _ _)) x2.2.1 v2 ((hC4.ro 3 z).now (Ay _ _)) x2.2.2 v3 ((hC4.ro 4 z).now (Ay _ _)) x5 hr5)<|?_
 rintro v8 w5 ⟨hB5,F8,hv9,hn4,hb4⟩
 have hC5:=hC4.push hB5 (A:=Ad v8 x5) hv9 hn4 hb4
 refine Af z z<|Aa<|Ac<|Ae z z<|Ae z z<|Ae z z<|be hF fun x6 hr6 hF=>AA Tryz.call10 z z (c_S_AllRemovals x2.1 v1 ((hC5.ro 3 z).now (Ay _ _)) x2.2.1 v2 ((hC5.ro 4 z).now (Ay _ _)) x2.2.2 v3 ((hC5.ro 5 z).now (Ay _ _)) x6 hr6)<|?_
 rintro v9 w6 ⟨hB6,F9,hv10,hn5,hb5⟩
 have hC6:=hC5.push hB6 (A:=Ad v9 x6) hv10 hn5 hb5
 refine Af z z<|Aa<|A0<|be hF fun r1 hr7 hF=>B9 (fun l w=>∃x7:Bool,x7=r1∧l=[(0,u1),(3,v1),(4,v2),(5,v3),(7,(.bool x3.2)),(8,v6),(11,v9),(65,(.bool x7))]∧Below w6.heap.size w6 w∧Ctx [] w0 w [Ad v9 x6,Ad v6 x4.1,Ad v1 x2.1,Ad v2 x2.2.1,Ad v3 x2.2.2]) ?_ ?_
 ·refine AL<|Ae z z<|Ae z z<|WL_bool_neq Tryz.underlying4 z z z<|Ae z z<|wk hr7 (fun hr7=>?_) fun hr7=>?_
  ·refine gs z z z z<|gs z z z z<|gs z z z z<|gs z z z z<|AJ z z z<|Ae z z<|gs z z z z<|gs z z z z<|gs z z z z<|gs z z z z<|AJ z z z<|Aa<|?_
   have hC13:=hC6.f6.f6.f6.f5.f4.h5
   exact nS<|⟨true,Ab hr7,z,(Aj _ _),hC13⟩
  refine Ai z z<|Ae z z<|Ai z z<|Ae z z<|be hr7 fun x8 hr8 hr7=>Ai z z<|cb Tryz.call11 z z (c_Q_sameInts x3.1 v4 ((hC6.ro 3 z).now (Ay _ _)) x4.1 v6 ((hC6.ro 2 z).now (Ay _ _)) x8 hr8) fun w9 hB8=>have hC14:=hC6.grow hB8;Ai z z<|Bv z z<|AK z z z<|Ae z z<|wk hr7 (fun hr7=>?_) fun hr7=>?_
  ·refine gs z z z z<|gs z z z z<|gs z z z z<|gs z z z z<|AJ z z z<|Aa<|?_
   have hC20:=hC14.f6.f6.f6.f5.f4.h5
   exact nS<|⟨true,Ab hr7,z,(Ao hB8).below,hC20⟩
  refine Ai z z<|Ae z z<|Ai z z<|Ae z z<|be hr7 fun x9 hr9 hr7=>Ai z z<|cb Tryz.call12 z z (c_S_SameTuples x5 v8 ((hC14.ro 1 z).now (Ay _ _)) x6 v9 ((hC14.ro 0 z).now (Ay _ _)) x9 hr9) fun w10 hB9=>have hC21:=hC14.grow hB9;Ai z z<|Bv z z<|AK z z z<|Aa<|?_
  have hC27:=hC21.f6.f6.f6.f5.f4.h5
  exact nS<|⟨(!x9),Ab hr7,z,((Ao hB8).then hB9).below,hC27⟩
 rintro _ w7 ⟨x7,rfl,rfl,hB7,hC7⟩
 refine wc hF z (fun hF=>?_) fun hF=>?_
 ·exact Ac<|Af z z<|Aa<|AF<|Ax<|rB hF z z hC7
 refine A5<|Am<|Ac<|Ae z z<|Ae z z<|Ae z z<|be hF fun x10 hr10 hF=>AA Tryz.call13 z z (c_M_TrustedFacts x2.1 v1 ((hC7.ro 2 z).now (Ay _ _)) x2.2.1 v2 ((hC7.ro 3 z).now (Ay _ _)) x2.2.2 v3 ((hC7.ro 4 z).now (Ay _ _)) x10 hr10)<|?_
 rintro v10 w11 ⟨hB10,F10,hv13,hn6,hb6⟩
 have hC28:=hC7.push hB10 (A:=Ad v10 x10) hv13 hn6 hb6
 refine Af z z<|Aa<|Ac<|Ae z z<|Ae z z<|Ae z z<|be hF fun x11 hr11 hF=>AA Tryz.call14 z z (c_M_DoubtedFacts x2.1 v1 ((hC28.ro 3 z).now (Ay _ _)) x2.2.1 v2 ((hC28.ro 4 z).now (Ay _ _)) x2.2.2 v3 ((hC28.ro 5 z).now (Ay _ _)) x11 hr11)<|?_
 rintro v11 w12 ⟨hB11,F11,hv14,hn7,hb7⟩
 have hC29:=hC28.push hB11 (A:=Ad v11 x11) hv14 hn7 hb7
 refine Af z z<|Aa<|A0<|be hF fun r2 hr12 hF=>B9 (fun l w=>∃x12:Bool,x12=r2∧l=[(0,u1),(3,v1),(4,v2),(5,v3),(7,(.bool x3.2)),(8,v6),(11,v9),(12,v10),(13,v11),(89,(.bool x12))]∧Below w12.heap.size w12 w∧Ctx [] w0 w [Ad v11 x11,Ad v10 x10,Ad v9 x6,Ad v6 x4.1,Ad v1 x2.1,Ad v2 x2.2.1,Ad v3 x2.2.2]) ?_ ?_
 ·refine AL<|Ae z z<|Ae z z<|Ae z z<|Ae z z<|be hr12 fun x13 hr13 hr12=>AA Tryz.call16 z z (c_S_TrustedFacts x2.1 v1 ((hC29.ro 4 z).now (Ay _ _)) x2.2.1 v2 ((hC29.ro 5 z).now (Ay _ _)) x2.2.2 v3 ((hC29.ro 6 z).now (Ay _ _)) x13 hr13)<|?_
  rintro v12 w14 ⟨hB13,F12,hv15,hn8,hb8⟩
  have hC31:=hC29.push hB13 (A:=Ad v12 x13) hv15 hn8 hb8
  refine be hr12 fun x14 hr14 hr12=>cb Tryz.call15 z z (c_S_SameFacts x10 v10 ((hC31.ro 2 z).now (Ay _ _)) x13 v12 ((hC31.ro 0 z).now (Ay _ _)) x14 hr14) fun w15 hB14=>have hC32:=hC31.grow hB14;Bv z z<|Ae z z<|wk hr12 (fun hr12=>?_) fun hr12=>?_
  ·refine gs z z z z<|gs z z z z<|gs z z z z<|gs z z z z<|gs z z z z<|gs z z z z<|gs z z z z<|AJ z z z<|Aa<|?_
   have hC40:=hC32.f7.f7.f7.f7.f7.f7.f7.h7
   exact nS<|⟨true,Ab hr12,z,((Ao hB13).then hB14).below,hC40⟩
  refine Ai z z<|Ae z z<|Ai z z<|Ae z z<|Ai z z<|Ae z z<|Ai z z<|Ae z z<|be hr12 fun x15 hr15 hr12=>Ai z z<|AA Tryz.call17 z z (c_S_DoubtedFacts x2.1 v1 ((hC32.ro 5 z).now (Ay _ _)) x2.2.1 v2 ((hC32.ro 6 z).now (Ay _ _)) x2.2.2 v3 ((hC32.ro 7 z).now (Ay _ _)) x15 hr15)<|?_
  rintro v13 w16 ⟨hB15,F13,hv17,hn9,hb9⟩
  have hC41:=hC32.push hB15 (A:=Ad v13 x15) hv17 hn9 hb9
  refine be hr12 fun x16 hr16 hr12=>Ai z z<|cb Tryz.call15 z z (c_S_SameFacts x11 v11 ((hC41.ro 2 z).now (Ay _ _)) x15 v13 ((hC41.ro 0 z).now (Ay _ _)) x16 hr16) fun w17 hB16=>have hC42:=hC41.grow hB16;Ai z z<|Bv z z<|AK z z z<|Aa<|?_
  have hC50:=hC42.f8.f8.f8.f8.f8.f8.f8.h7
  exact nS<|⟨(!x16),Ab hr12,z,((((Ao hB13).then hB14).then hB15).then hB16).below,hC50⟩
 rintro _ w13 ⟨x12,rfl,rfl,hB12,hC30⟩
 refine wc hF z (fun hF=>?_) fun hF=>?_
 ·exact Ac<|Af z z<|Aa<|AF<|Ax<|rB hF z z hC30
 refine A5<|Am<|A0<|Ac<|Ae z z<|Aa<|be hF fun r3 hr17 hF=>wN (fun l w=>.inl ()=r3∧l=[(0,u1)]∧Ctx [] w0 w []) ?_ ?_
 ·refine wc hr17 z (fun hr17=>?_) fun hr17=>?_
  ·refine A0<|be hr17 fun r4 hr18 hr17=>B9 (fun l w=>∃x17:Bool,x17=r4∧l=[(0,u1),(3,v1),(4,v2),(5,v3),(8,v6),(11,v9),(12,v10),(121,(.bool x17))]∧Below w13.heap.size w13 w∧Ctx [] w0 w [Ad v10 x10,Ad v9 x6,Ad v6 x4.1,Ad v1 x2.1,Ad v2 x2.2.1,Ad v3 x2.2.2]) ?_ ?_
   ·refine AL<|Ae z z<|Ae z z<|Ae z z<|Ae z z<|be hr18 fun x18 hr19 hr18=>AA CZ z z (c_M_Without x2.2.2 v3 ((hC30.ro 6 z).now (Ay _ _)) x4.1 v6 ((hC30.ro 3 z).now (Ay _ _)) x18 hr19)<|?_
    rintro v14 w20 ⟨hB19,F14,hv19,hn10,hb10⟩
    have hC53:=hC30.push hB19 (A:=Ad v14 x18) hv19 hn10 hb10
    refine be hr18 fun x19 hr20 hr18=>cb Tryz.call18 z z (c_M_IsConsistent x2.1 v1 ((hC53.ro 5 z).now (Ay _ _)) x2.2.1 v2 ((hC53.ro 6 z).now (Ay _ _)) x18 v14 ((hC53.ro 0 z).now (Ay _ _)) x19 hr20) fun w21 hB20=>have hC54:=hC53.grow hB20;Bv z z<|Ae z z<|wk hr18 (fun hr18=>?_) fun hr18=>?_
    ·refine gs z z z z<|gs z z z z<|gs z z z z<|AJ z z z<|Ae z z<|gs z z z z<|gs z z z z<|gs z z z z<|gs z z z z<|gs z z z z<|gs z z z z<|AJ z z z<|Ae z z<|gs z z z z<|gs z z z z<|gs z z z z<|gs z z z z<|gs z z z z<|gs z z z z<|gs z z z z<|gs z z z z<|gs z z z z<|AJ z z z<|Aa<|?_
     have hC61:=hC54.f7.f7.f7.f7.f7.f7.h6
     exact nS<|⟨true,Ab hr18,z,((Ao hB19).then hB20).below,hC61⟩
    refine Ai z z<|Ae z z<|Ai z z<|AH AC (hC54.ro 3 z) z z<|Ai z z<|BD z z z<|AK z z z<|Ae z z<|wk hr18 (fun hr18=>?_) fun hr18=>?_
    ·refine gs z z z z<|gs z z z z<|gs z z z z<|gs z z z z<|gs z z z z<|gs z z z z<|AJ z z z<|Ae z z<|gs z z z z<|gs z z z z<|gs z z z z<|gs z z z z<|gs z z z z<|gs z z z z<|gs z z z z<|gs z z z z<|gs z z z z<|AJ z z z<|Aa<|?_
     have hC68:=hC54.f7.f7.f7.f7.f7.f7.h6
     exact nS<|⟨true,Ab hr18,z,((Ao hB19).then hB20).below,hC68⟩
    refine Ai z z<|Ae z z<|be hr18 fun x20 hx1 hr18=>Ai z z<|A9 AC ty24 (hC54.ro 3 z) hx1 z z z fun b1 o1 h1=>Ai z z<|AD ty24 h1 (Ay _ _) z z fun v15 h2=>Ai z z<|Ae z z<|be hr18 fun x21 hr21 hr18=>Ai z z<|cb Tryz.call11 z z (c_Q_sameInts x20 v15 (h2.now (Ay _ _)) x4.1 v6 ((hC54.ro 4 z).now (Ay _ _)) x21 hr21) fun w22 hB21=>have hC69:=hC54.grow hB21;Ai z z<|Bv z z<|AK z z z<|Ae z z<|wk hr18 (fun hr18=>?_) fun hr18=>?_
    ·refine gs z z z z<|gs z z z z<|gs z z z z<|gs z z z z<|gs z z z z<|gs z z z z<|gs z z z z<|gs z z z z<|gs z z z z<|AJ z z z<|Aa<|?_
     have hC76:=hC69.f7.f7.f7.f7.f7.f7.h6
     exact nS<|⟨true,Ab hr18,z,(((Ao hB19).then hB20).then hB21).below,hC76⟩
    refine Ai z z<|Ae z z<|Ai z z<|AH Ak (hC69.ro 2 z) z z<|Ai z z<|Ae z z<|Ai z z<|AH Ak (hC69.ro 1 z) z z<|Ai z z<|AW z z z<|Ai z z<|Ae z z<|be hr18 fun x22 hr22 hr18=>Ai z z<|AA Dd z z (c_S_UnionOf x2.2.2 v3 ((hC69.ro 7 z).now (Ay _ _)) x22 hr22)<|?_
    rintro v16 w23 ⟨hB22,F15,hv22,hn11,hb11⟩
    have hC77:=hC69.push hB22 (A:=Ad v16 x22) hv22 hn11 hb11
    refine Ai z z<|AH Ak (hC77.ro 0 z) z z<|Ai z z<|BQ z z z<|AK z z z<|Aa<|?_
    have hC84:=hC77.f8.f8.f8.f8.f8.f8.h6
    exact nS<|⟨(!decide ((w64 ((List.length x10:Int)+(List.length x11:Int)))=(List.length x22:Int))),Ab hr18,z,((((Ao hB19).then hB20).then hB21).then hB22).below,hC84⟩
   rintro _ w19 ⟨x17,rfl,rfl,hB18,hC52⟩
   refine wc hr17 z (fun hr17=>?_) fun hr17=>?_
   ·refine Ac<|Af z z<|Aa<|AF<|Ax<|Ax<|Ax<|?_
    obtain rfl:=Ab hr17
    dsimp only at hF
    exact rB hF z z hC52
   refine A5<|Am<|A0<|Ac<|Af z z<|Aa<|be hr17 fun r5 hr23 hr17=>wN (fun l w=>.inl ()=r5∧l=[(0,u1),(5,v3),(11,v9),(12,v10)]∧Ctx [] w0 w [Ad v10 x10,Ad v9 x6,Ad v3 x2.2.2]) ?_ ?_
   ·refine A4<|wT<|Bj (fun k l w=>∃x23:Int,l=[(0,u1),(3,v1),(4,v2),(5,v3),(8,v6),(11,v9),(12,v10),(14,(I x23))]∧Ctx [] w0 w [Ad v10 x10,Ad v9 x6,Ad v6 x4.1,Ad v1 x2.1,Ad v2 x2.2.1,Ad v3 x2.2.2]∧Q.FnRepairs_l1 x4 x2 k x23=some r5) FUEL ⟨0,z,hC52,hr23⟩<|?_
    clear hr23
    rintro k1 _ w24 ⟨x23,rfl,hC85,hL1⟩
    obtain _|k1:=k1<;>rw [Q.FnRepairs_l1] at hL1
    ·cases hL1
    refine A0<|Ac<|Ae z z<|Ae z z<|AH Ag (hC85.ro 2 z) z z<|AZ z z z<|Aa<|wc hL1 z (fun hL1=>?_) fun hL1=>?_
    ·refine A5<|Am<|A0<|A4<|A0<|W_drawn 11 z hmix fun w25 hB24=>have hC86:=hC85.grow hB24;tm 1 z z z<|tm 2 z z z<|be hL1 fun x24 hx2 hL1=>tk 3 z z (fl_slice_h Ag ty3 (hC86.ro 2 z) hx2 z z)<|WL_slice_hV Ag ty3 (hC86.ro 2 z) hx2 z z z fun v17 h3=>Aa<|tm 5 z z z<|tm 6 z z z<|tk 7 z z (fl_add z z)<|AW z z z<|Aa<|be hL1 fun x25 hx3 hL1=>tk 8 z z (fl_slice_l Ag ty3 (hC86.ro 2 z) hx3 z z)<|WL_slice_lV Ag ty3 (hC86.ro 2 z) hx3 z z z fun v18 h4=>Aa<|oe 0 z<|Ar (vs:=[]) hC86 Ag ty3 z z z z (by simp) z z fun b2 w26 hC87 hB25=>?_
     have hC90:=hC87.rowE (α:=Int)
     refine Aa<|be hL1 fun x26 hx4 hL1=>oe 4 z<|AS (α:=Int) hC90 0 z (h3 (hC90.ro 3 z)) (Ay _ _) Ag ty3 z hx4 z z z fun v19 w27 hC91=>?_
     try dsimp only [List.set] at hC91
     refine Aa<|be hL1 fun x27 hx5 hL1=>oe 9 z<|AS (α:=Int) hC91 0 z (h4 (hC91.ro 3 z)) (Ay _ _) Ag ty3 z hx5 z z z fun v20 w28 hC92=>?_
     try dsimp only [List.set] at hC92
     refine Aa<|ta 10 z z z<|dn<|Am<|Ac<|Ae z z<|Ae z z<|Ae z z<|Ae z z<|be hL1 fun x28 hr24 hL1=>AA CZ z z (c_M_Without x2.2.2 v3 ((hC92.ro 6 z).now (Ay _ _)) x27 v20 ((hC92.ro 0 z).now (Ay _ _)) x28 hr24)<|?_
     rintro v21 w29 ⟨hB26,F16,hv23,hn12,hb12⟩
     have hC93:=hC92.push hB26 (A:=Ad v21 x28) hv23 hn12 hb12
     refine be hL1 fun x29 hr25 hL1=>cb Tryz.call21 z z (c_S_IsConsistent x2.1 v1 ((hC93.ro 5 z).now (Ay _ _)) x2.2.1 v2 ((hC93.ro 6 z).now (Ay _ _)) x28 v21 ((hC93.ro 0 z).now (Ay _ _)) x29 hr25) fun w30 hB27=>have hC94:=hC93.grow hB27;Aa<|wc hL1 z (fun hL1=>?_) fun hL1=>?_
     ·refine Ac<|Af z z<|Aa<|AF<|AT<|Ax<|Ax<|AT<|Ax<|Ax<|Ax<|Ax<|?_
      obtain rfl:=Ab hL1
      dsimp only at hr17
      obtain rfl:=Ab hr17
      dsimp only at hF
      exact rB hF z z hC94
     exact A5<|AN<|Am<|AL<|Ae z z<|AW z z z<|Af z z<|Aa<|have hC95:=hC94.f7;have hC96:=hC95.f7;have hC97:=hC96.f7;have hC98:=hC97.f7;have hC99:=hC98.f7;have hC100:=hC99.f7;have hC101:=hC100.h6;nS<|⟨k1,Aw _,w64 (x23+1),z,hC101,hL1⟩
    refine Bi (A2 (A2 (AM ?_)))
    have hC105:=hC85.f5.f2.f2.h3
    exact nS<|⟨Ab hL1,z,hC105⟩
   rintro _ w31 ⟨rfl,rfl,hC106⟩
   try dsimp only at hr17
   refine Ac<|Af z z<|Aa<|be hr17 fun r6 hr26 hr17=>C7 (fun l w=>.inl ()=r6∧l=[(0,u1)]∧Below w31.heap.size w31 w∧Ctx [] w0 w []) ?_ ?_
   ·refine A4<|wT<|Bj (fun k l w=>∃x30:Int,l=[(0,u1),(5,v3),(11,v9),(12,v10),(16,(I x30))]∧Below w31.heap.size w31 w∧Ctx [] w0 w [Ad v10 x10,Ad v9 x6,Ad v3 x2.2.2]∧Q.FnRepairs_l2 x6 x2 x10 k x30=some r6) FUEL ⟨0,z,(Aj _ _),hC106,hr26⟩<|?_
    clear hr26
    rintro k2 _ w32 ⟨x30,rfl,hB29,hC107,hL2⟩
    obtain _|k2:=k2<;>rw [Q.FnRepairs_l2] at hL2
    ·cases hL2
    refine A0<|Ac<|Ae z z<|Ae z z<|AH AC (hC107.ro 1 z) z z<|AZ z z z<|Aa<|wc hL2 z (fun hL2=>?_) fun hL2=>?_
    ·refine A5<|Am<|A0<|A4<|Ac<|Ae z z<|Ae z z<|Ae z z<|Ae z z<|be hL2 fun x31 hx6 hL2=>A9 AC ty24 (hC107.ro 1 z) hx6 z z z fun b3 o2 h5=>AD ty24 h5 (Ay _ _) z z fun v22 h6=>be hL2 fun x32 hr27 hL2=>AA Dc z z (c_S_Without x2.2.2 v3 ((hC107.ro 2 z).now (Ay _ _)) x31 v22 (h6.now (Ay _ _)) x32 hr27)<|?_
     rintro v23 w33 ⟨hB30,F17,hv25,hn13,hb13⟩
     have hC108:=hC107.push hB30 (A:=Ad v23 x32) hv25 hn13 hb13
     refine be hL2 fun x33 hr28 hL2=>AA Dd z z (c_S_UnionOf x32 v23 ((hC108.ro 0 z).now (Ay _ _)) x33 hr28)<|?_
     rintro v24 w34 ⟨hB31,F18,hv26,hn14,hb14⟩
     have hC109:=hC108.push hB31 (A:=Ad v24 x33) hv26 hn14 hb14
     refine be hL2 fun x34 hr29 hL2=>cb Tryz.call22 z z (c_Q_inside x10 v10 ((hC109.ro 2 z).now (Ay _ _)) x33 v24 ((hC109.ro 0 z).now (Ay _ _)) x34 hr29) fun w35 hB32=>have hC110:=hC109.grow hB32;Bv z z<|Aa<|wc hL2 z (fun hL2=>?_) fun hL2=>?_
     ·refine Ac<|Af z z<|Aa<|AF<|AT<|Ax<|Ax<|AT<|Ax<|Ax<|Ax<|?_
      obtain rfl:=Ab hL2
      dsimp only at hr17
      obtain rfl:=Ab hr17
      dsimp only at hF
      exact rB hF z z hC110
     exact A5<|AN<|Am<|AL<|Ae z z<|AW z z z<|Af z z<|Aa<|have hC111:=hC110.f4;have hC112:=hC111.f4;have hC113:=hC112.f4;have hC114:=hC113.h3;nS<|⟨k2,Aw _,w64 (x30+1),z,((((Ao hB29).then hB30).then hB31).then hB32).below,hC114,hL2⟩
    refine Bi (A2 (A2 (AM ?_)))
    have hC115:=hC107.h0
    exact nS<|⟨Ab hL2,z,(Ao hB29).below,hC115⟩
   rintro l8 _ w36 hs8 ⟨rfl,rfl,hB33,hC116⟩
   try dsimp only at hr17
   obtain rfl:=Ab hr17
   exact Cq (l2:=[(0,u1)]) hs8 ⟨z,A6⟩<|⟨z,z,hC116⟩
  refine A5 ?_
  have hC117:=hC30.h0
  exact nS<|⟨Ab hr17,z,hC117⟩
 rintro _ w18 ⟨rfl,rfl,hC51⟩
 try dsimp only at hF
 refine Ac<|Ae z z<|be hF fun x35 hr30 hF=>AA Tryz.call24 z z (c_S_DrawTrustedAnswers a1 u1 (g1.now hC51.keep) x35 hr30)<|?_
 rintro _ w37 ⟨v25,v26,v27,v28,rfl,hq25⟩
 have hC118:Ctx [] w0 w37 [Ad v25 x35.1,Ad v26 x35.2.1,Ad v27 x35.2.2.1,Ad v28 x35.2.2.2]:=hC51.push2 hq25
 have hC119:=hC118.f2
 obtain ⟨v29,v30,rfl,hC120⟩:=st43_own hC119
 refine Ae z z<|Bk z z z<|Bk z z z<|Bk z z z<|Bk z z z<|Bq hC120 zero43 z z fun b4 w38 hC121 hB34 hN1=>Af z z<|Af z z<|AE (cs':=[v29,v30]) (new:=[v29,v30]) hC121 0 z z (fac (Br (hC121.ro 1 z))<|fac (Br (hC121.ro 2 z))<|fa0) z B0 z z fun w39 hC122 hKp1=>?_
 try dsimp only [List.set] at hC122
 have hk1:=AV ((Ao hq25.keep.below).then hB34) (Bl (Ao hq25.keep.below).size hN1) hKp1
 have hk2:=AV (Ao hB34) hN1 hKp1
 refine Af z z<|Aa<|A0<|W_drawn 12 z hmix fun w40 hB35=>have hC123:=hC122.grow hB35;tm 0 z z z<|tm 1 z z z<|tm 3 z z z<|tm 5 z z z<|tm 6 z z z<|tm 8 z z z<|be hF fun x36 hr31 hF=>wAS (l':=[(0,u1),(17,v25),(18,v26),(19,(ptr b4 0)),(20,v28),(160,(.tuple #[v25,v26,(.agg #[v29,v30]),v28])),(161,u1),(162,(.tuple #[v25,v26,(.agg #[v29,v30]),v28])),(163,v25),(164,v26),(165,(.agg #[v29,v30])),(166,v28),(167,v25),(168,v26),(170,v28),(172,v25),(173,v26),(175,v28)]) ⟨z,z,z,z,z,z,z,z,z,z,z,z,z,z,z,z,z,z,A6⟩<|Bg [⟨2,[],fun vs=>AQ (.agg #[v29,v30]),[]⟩,⟨4,[],fun vs=>BS x36,[]⟩,⟨7,[],fun vs=>AQ (.agg #[v29,v30]),[]⟩] [[],[2],[]] 3 z (by kernel_rfl) (by kernel_rfl) z ?_ ?_
 ·refine An z ?_ ?_
  ·intro w42 hB37
   refine At<|⟨_,z,?_⟩
   exact Az [v29,v30] (hC123.grow hB37) 0 z z z BA B0 z z<|Aa<|A1 (Aj _ _) z z ⟨z,z⟩
  refine An z ?_ ?_
  ·intro w42 hB37
   refine AG z z z ?_
   rintro _ _ ⟨rfl,rfl⟩ _
   refine At<|⟨_,z,?_⟩
   refine AA Tryz.call25 z z (c_M_TrustedAnswers x35.1 v25 ((hC123.grow hB37).ro 3 z) x35.2.1 v26 ((hC123.grow hB37).ro 4 z) (x35.2.2.1.1,x35.2.2.1.2) v29 ((hC123.grow hB37).ro 1 z) v30 ((hC123.grow hB37).ro 2 z) x35.2.2.2 v28 ((hC123.grow hB37).ro 5 z) x36 hr31) ?_
   rintro v31 w41 ⟨hB36,F19,hv28,hn16,hb16⟩
   exact Aa<|BZ hB36 z z hv28 hn16 hb16 (Val.inh hv28)
  refine An z ?_ ?_
  ·intro w42 hB37
   refine At<|⟨_,z,?_⟩
   exact Az [v29,v30] (hC123.grow hB37) 0 z z z BA B0 z z<|Aa<|A1 (Aj _ _) z z ⟨z,z⟩
  exact AX
 intro w43 hB38
 refine Ap z z z ?_
 rintro _ _ ⟨rfl,rfl⟩
 refine Ap z z z fun v31 F19 hv28=>Ap z z z<|?_
 rintro _ _ ⟨rfl,rfl⟩
 refine Bm ?_
 intro hn17 hb17
 have hC124:=hC123.pushL hB38 (Bs:=[Ad v31 x36]) (Fs:=[F19]) ⟨F19,_,z,hv28,z⟩ (by simpa using hn17) (fun b h=>(hb17 b (by simpa using h)).1)
 refine be hF fun x37 hr32 hF=>oe 9 z<|AA Tryz.call26 z z (c_S_TrustedAnswers x35.1 v25 ((hC124.ro 4 z).now (Ay _ _)) x35.2.1 v26 ((hC124.ro 5 z).now (Ay _ _)) (x35.2.2.1.1,x35.2.2.1.2) v29 ((hC124.ro 2 z).now (Ay _ _)) v30 ((hC124.ro 3 z).now (Ay _ _)) x35.2.2.2 v28 ((hC124.ro 6 z).now (Ay _ _)) x37 hr32)<|?_
 rintro v32 w44 ⟨hB39,F20,hv29,hn18,hb18⟩
 have hC125:=hC124.push hB39 (A:=Ad v32 x37) hv29 hn18 hb18
 exact Aa<|be hF fun x38 hr33 hF=>oe 10 z<|cb Tryz.call12 z z (c_S_SameTuples x36 v31 ((hC125.ro 1 z).now (Ay _ _)) x37 v32 ((hC125.ro 0 z).now (Ay _ _)) x38 hr33) fun w45 hB40=>have hC126:=hC125.grow hB40;Aa<|ta 11 z z z<|dn<|Am<|AF<|rB hF z z hC126
end Go.Gx.Px
