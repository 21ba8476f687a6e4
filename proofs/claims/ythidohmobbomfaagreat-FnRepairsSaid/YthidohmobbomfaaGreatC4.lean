/- The contracts of the Go functions against the pure functions, printed by program. Conditions: each says them. -/
import Derived.Test.YthidohmobbomfaaGreatC3
set_option linter.unusedVariables false
set_option linter.unusedSimpArgs false
set_option maxRecDepth 100000
set_option maxHeartbeats 4000000
namespace Go.Gx.Px
open Go.Proofs Go.RowKit
open K9
theorem c_M_IsTold {w0:World} (a1:Ta) (u1:Value) (g1:RO [] w0 u1 a1) (a2:Tf) (u2:Value) (g2:RO [] w0 u2 a2) (a3:Td) (u3:Value) (g3:RO [] w0 u3 a3.1.2) (u4:Value) (g4:RO [] w0 u4 a3.2) (rr:Bool) (hF:M.IsTold a1 a2 a3=some rr) :
 Calls Tryz.prog 148 [u1,u2,(.agg #[(I a3.1.1),u3,u4])].toArray w0 fun e w'=>∃v,e=.returned v∧Res w0 rr v w':=by
 refine Av Tryz.func148 z z ?_
 have hC0:=A3 w0
 unfold M.IsTold at hF
 refine Ac<|Be (cs:=[(I a3.1.1),u3,u4]) hC0 z z z fun b1 w1 hC1 hB1 hN1=>Af z z<|Aa<|be hF fun r1 hr1 hF=>B9 (fun l w=>∃x1:Bool,x1=r1∧l=[(6,(.bool x1))]∧Below w1.heap.size w1 w∧Ctx [] w0 w []) ?_ ?_
 ·refine AL<|Ae z z<|Ae z z<|fd AR AP z z z z<|Az [(I a3.1.1),u3] hC1 0 z z z Bu AP z z<|be hr1 fun x2 hr2 hr1=>cb Tryz.call193 z z (c_M_IsAccess a1 u1 (g1.now hC1.keep) a2 u2 (g2.now hC1.keep) (a3.1.1,a3.1.2) u3 (g3.now hC1.keep) x2 hr2) fun w3 hB3=>have hC3:=hC1.grow hB3;Ae z z<|wk hr1 (fun hr1=>?_) fun hr1=>?_
  ·refine Ai z z<|Ae z z<|Ai z z<|fd AR Bx z z z z<|Ai z z<|Al hC3 0 z z B8 z z<|be hr1 fun x3 hr3 hr1=>Ai z z<|cb Tryz.call194 z z (c_M_AreFacts a1 u1 (g1.now hC3.keep) a3.2 u4 (g4.now hC3.keep) x3 hr3) fun w4 hB4=>have hC4:=hC3.grow hB4;AJ z z z<|Af z z<|Aa<|?_
   have hC5:=hC4.h0
   exact nS<|⟨x3,Ab hr1,z,((Ao hB3).then hB4).below,hC5⟩
  refine gs z z z z<|gs z z z z<|gs z z z z<|gs z z z z<|AK z z z<|Af z z<|Aa<|?_
  have hC6:=hC3.h0
  exact nS<|⟨false,Ab hr1,z,(Ao hB3).below,hC6⟩
 rintro _ w2 ⟨x1,rfl,rfl,hB2,hC2⟩
 exact AF<|rB hF z z hC2
theorem c_Slices_Clone_Lint_int {w0:World} (a1:Ta) (u1:Value) (g1:RO [] w0 u1 a1) (rr:Ta) (hF:Slices.Clone_Lint_int a1=some rr) :
 Calls Tryz.prog 143 [u1].toArray w0 fun e w'=>∃v,e=.returned v∧Res w0 rr v w':=by
 refine Av Tryz.func143 z z ?_
 have hC0:=A3 w0
 unfold Slices.Clone_Lint_int at hF
 refine Ac<|Af z z<|Aa<|A0<|Ac<|Ae z z<|WL_isnil Ag g1 z z fun bn1 hb1=>Aa<|?_
 rcases btf bn1 with hc1 | hc1
 ·have ha:=hb1 hc1
  subst hc1
  subst ha
  replace hF:(some ([]):Option Ta)=some rr:=by simpa [app] using hF
  refine C4 z<|Ac<|Af z z<|Aa<|AF<|Ax<|?_
  obtain rfl:=Ab hF
  exact BI z z<|⟨_,z,nil_res hC0⟩
 subst hc1
 refine C5 z<|A5<|Am<|Ac<|Ar (vs:=[]) hC0 Ag ty3 z z z z (by simp) z z fun b1 w1 hC1 hB1=>?_
 have hC4:=hC1.rowE (α:=Int)
 refine Ae z z<|be hF fun x1 hx1 hF=>AS (α:=Int) hC4 0 z g1 hC4.keep Ag ty3 z hx1 z z z fun v1 w2 hC5=>?_
 try dsimp only [List.set] at hC5
 exact Af z z<|Aa<|AF<|rO hF z z hC5 0 z
theorem c_M_copyFact {w0:World} (a1:Tb) (u1:Value) (g1:RO [] w0 u1 a1.2) (rr:Tb) (hF:M.copyFact a1=some rr) :
 Calls Tryz.prog 158 [(.agg #[(I a1.1),u1])].toArray w0 fun e w'=>∃v,e=.returned v∧Res w0 rr v w':=by
 refine Av Tryz.func158 z z ?_
 have hC0:=A3 w0
 unfold M.copyFact at hF
 refine Ac<|Be (cs:=[(I a1.1),u1]) hC0 z z z fun b1 w1 hC1 hB1 hN1=>Bq hC1 zero77 z z fun b2 w2 hC2 hB2 hN2=>Aa<|A0<|W_drawn 7 z hmix fun w3 hB3=>have hC3:=hC2.grow hB3;tf 0 AB A7 z z z z z<|tf 2 AB Aq z z z z z<|be hF fun x1 hr1 hF=>wAS (l':=[(0,(.agg #[(I a1.1),u1])),(1,(ptr b1 0)),(2,(ptr b2 0)),(3,(ptr b1 0)),(5,(ptr b1 1))]) ⟨z,z,z,z,z,A6⟩<|Bg [⟨1,[],fun vs=>AQ (I a1.1),[]⟩,⟨3,[],fun vs=>AQ u1,[]⟩,⟨4,[],fun vs=>BS x1,[]⟩] [[],[],[3]] 2 z (by kernel_rfl) (by kernel_rfl) z ?_ ?_
 ·refine An z ?_ ?_
  ·intro w5 hB5
   refine At<|⟨_,z,?_⟩
   exact Al (hC3.grow hB5) 1 z z AU z z<|Aa<|A1 (Aj _ _) z z ⟨z,z⟩
  refine An z ?_ ?_
  ·intro w5 hB5
   refine At<|⟨_,z,?_⟩
   exact Al (hC3.grow hB5) 1 z z Au z z<|Aa<|A1 (Aj _ _) z z ⟨z,z⟩
  refine An z ?_ ?_
  ·intro w5 hB5
   refine AG z z z ?_
   rintro _ _ ⟨rfl,rfl⟩ _
   refine At<|⟨_,z,?_⟩
   refine AA CE z z (c_Slices_Clone_Lint_int a1.2 u1 (g1.now (hC3.keep.then hB5)) x1 hr1) ?_
   rintro v1 w4 ⟨hB4,F1,hv1,hn1,hb1⟩
   exact Aa<|BZ hB4 z z hv1 hn1 hb1 (Val.inh hv1)
  exact AX
 intro w6 hB6
 refine Ap z z z ?_
 rintro _ _ ⟨rfl,rfl⟩
 refine Ap z z z ?_
 rintro _ _ ⟨rfl,rfl⟩
 refine Ap z z z fun v1 F1 hv1=>Bm fun hn2 hb2=>?_
 have hC4:=hC3.pushL hB6 (Bs:=[Ad v1 x1]) (Fs:=[F1]) ⟨F1,_,z,hv1,z⟩ (by simpa using hn2) (fun b h=>(hb2 b (by simpa using h)).1)
 refine tk 5 z z (BR (vs:=[(0,(I a1.1)),(1,v1)]) z z (built77_0_1 z (ro_cells (hC4.ro 0 z))))<|B4 (vs:=[(0,(I a1.1)),(1,v1)]) z z z (built77_0_1 z (ro_cells (hC4.ro 0 z)))<|Aa<|oe 6 z<|AE (cs':=[(I a1.1),v1]) (new:=[(I a1.1),v1]) hC4 1 z z (fac z<|fac (Br (hC4.ro 0 z))<|fa0) z Bb z z fun w7 hC5 hKp1=>?_
 try dsimp only [List.set] at hC5
 have hk1:=AV ((((Ao hB1).then hB2).then hB3).then hB6) (Bl (Ao hB1).size hN2) hKp1
 have hk2:=AV (((Ao hB2).then hB3).then hB6) hN2 hKp1
 refine Aa<|dn<|Am<|AF<|?_
 obtain rfl:=Ab hF
 refine BY z (rv_cell_agg (cs':=[(I a1.1),v1]) hC5 (i:=1) z z z Bw Bb z) ?_
 have hC6:=Cc a1.1 v1 x1 hC5
 exact ⟨_,z,CJ hC6 0 z⟩
theorem c_M_copyFacts {w0:World} (a1:Tc) (u1:Value) (g1:RO [] w0 u1 a1) (rr:Tc) (hF:M.copyFacts a1=some rr) :
 Calls Tryz.prog 104 [u1].toArray w0 fun e w'=>∃v,e=.returned v∧Res w0 rr v w':=by
 refine Av Tryz.func104 z z ?_
 have hC0:=A3 w0
 unfold M.copyFacts at hF
 refine Ac<|Af z z<|Aa<|Ac<|Ar (vs:=[]) hC0 Ak ty77 z z z z (by simp) z z fun b1 w1 hC1 hB1=>?_
 have hC4:=hC1.rowE (α:=Tb)
 refine Af z z<|Aa<|A0<|Ac<|Ae z z<|AH Ak g1 z z<|Ae z z<|Aa<|be hF fun r1 hr1 hF=>wN (fun l w=>∃v2:Value,∃x3:Tc,x3=r1∧l=[(3,v2)]∧Ctx [] w0 w [Ad v2 x3]) ?_ ?_
 ·refine A4<|wT<|Bj (fun k l w=>∃v1:Value,∃x1:Tc,∃x2:Int,l=[(3,v1),(7,u1),(8,(I (List.length a1:Int))),(9,(I x2))]∧Ctx [] w0 w [Ad v1 x1]∧M.copyFacts_l1 a1 k x1 x2=some r1) FUEL ⟨(.slice (some ⟨b1,0,none⟩) 0 0),([]:List Tb),0,z,hC4,hr1⟩<|?_
  clear hr1
  rintro k1 _ w2 ⟨v1,x1,x2,rfl,hC5,hL1⟩
  obtain _|k1:=k1<;>rw [M.copyFacts_l1] at hL1
  ·cases hL1
  refine Ac<|AZ z z z<|Aa<|A0<|wc hL1 z (fun hL1=>?_) fun hL1=>?_
  ·refine A5<|Am<|A0<|A4<|Ac<|be hL1 fun x4 hx1 hL1=>A9 Ak ty77 g1 hx1 z z z fun b2 o1 h1=>AD ty77 h1 hC5.keep z z fun v3 h2=>?_
   obtain ⟨v4,rfl,h3⟩:=BE h2
   refine Bq hC5 zero77 z z fun b3 w3 hC6 hB3 hN1=>AE (cs':=[(I x4.1),v4]) (new:=[(I x4.1),v4]) hC6 0 z z (fac z<|fac (Br h3)<|fa0) z Bb z z fun w4 hC7 hKp1=>?_
   try dsimp only [List.set] at hC7
   have hk1:=AV (Ao hB3) hN1 hKp1
   refine Aa<|AL<|Ae z z<|Az [(I x4.1),v4] hC7 0 z z z Bw Bb z z<|be hL1 fun x5 hr2 hL1=>AA Tryz.call158 z z (c_M_copyFact (x4.1,x4.2) v4 (h3.now hC7.keep) x5 hr2)<|?_
   rintro v5 w5 ⟨hB4,F1,hv1,hn1,hb1⟩
   have hC8:=hC7.push hB4 (A:=Ad v5 x5) hv1 hn1 hb1
   obtain ⟨v6,rfl,hC9⟩:=st77_own hC8
   refine Ar (vs:=[(.agg #[(I x5.1),v6])]) hC9 Ak ty77 z z z z (fac z<|fa0) z z (fun b4 w6 hC10 hB5=>?_)
   have hC11:=hC10.row0 (α:=Tb)
   have hC13:=hC11.f2
   have hC12:=Cc x5.1 v6 x5.2 hC13
   have hC14:=hC12.row1
   have hC15:=hC14.front 1 z
   dsimp only [List.eraseIdx,List.cons_append,List.nil_append,List.append_nil] at hC15
   have hC16:Ctx [] w0 w6 (Ad (.slice (some ⟨b4,0,none⟩) 1 1) ([(x5.1,x5.2)]:List Tb)::[Ah b3 [(I x4.1),v4],Ad v1 x1]):=hC15.rowOwn (by simp [maxLen])
   refine be hL1 fun x6 hx2 hL1=>Bf hC16 1 z Ak ty77 z hx2 z z z fun v7 w7 hC17=>?_
   try dsimp only [List.set] at hC17
   exact Af z z<|Aa<|AN<|Am<|AL<|AW z z z<|Ae z z<|Aa<|have hC19:=hC17.f1;have hC20:=hC19.h1;nS<|⟨k1,Aw _,v7,x6,w64 (x2+1),z,hC20,hL1⟩
  refine Bi (A2 (A2 (AM ?_)))
  exact nS<|⟨v1,x1,Ab hL1,z,hC5⟩
 rintro _ w9 ⟨v2,x3,rfl,rfl,hC21⟩
 exact Ac<|Ae z z<|Af z z<|Aa<|AF<|rO hF z z hC21 0 z
theorem c_M_matches_c1 {w0:World} (a1:Tb) (u1:Value) (g1:RO [] w0 u1 a1.2) (pb1:Nat) (ax1:Te) (g2:ROAt [] w0 pb1 0 ax1) (pb2:Nat) (ax2:Tb) (g3:ROAt [] w0 pb2 0 ax2) (rr:Bool) (hF:M.matches_c1 a1 ax1 ax2=some rr) :
 Calls Tryz.prog 196 [(.agg #[(I a1.1),u1]),(ptr pb1 0),(ptr pb2 0)].toArray w0 fun e w'=>∃v,e=.returned v∧Res w0 rr v w':=by
 refine Av Tryz.func196 z z ?_
 have hC0:=A3 w0
 unfold M.matches_c1 at hF
 refine Ac<|Be (cs:=[(I a1.1),u1]) hC0 z z z fun b1 w1 hC1 hB1 hN1=>Af z z<|Aa<|A0<|Ac<|fd AB A7 z z z z<|Al hC1 0 z z AU z z<|fd AI A7 z z z z<|AD ty3 g2.fst hC1.keep z z fun v1 h1=>?_
 obtain rfl:=Bo h1
 refine BQ z z z<|Aa<|wc hF z (fun hF=>?_) fun hF=>?_
 ·exact Ac<|Af z z<|Aa<|AF<|Ax<|rB hF z z hC1
 refine A5<|Am<|A0<|Ac<|fd AI Aq z z z z<|AD ty24 g2.snd.fst hC1.keep z z fun v2 h2=>AH Ag h2 z z<|Ae z z<|Aa<|be hF fun r1 hr1 hF=>wN (fun l w=>.inl ()=r1∧l=[]∧Below w1.heap.size w1 w∧Ctx [] w0 w []) ?_ ?_
 ·refine A4<|wT<|Bj (fun k l w=>∃x1:Int,l=[(2,(ptr pb2 0)),(3,(ptr b1 0)),(13,v2),(14,(I (List.length ax1.2.1:Int))),(15,(I x1))]∧Below w1.heap.size w1 w∧Ctx [] w0 w [Ah b1 [(I a1.1),u1]]∧M.matches_c1_l1 ax1 a1 ax2 k x1=some r1) FUEL ⟨0,z,(Aj _ _),hC1,hr1⟩<|?_
  clear hr1
  rintro k1 _ w2 ⟨x1,rfl,hB2,hC2,hL1⟩
  obtain _|k1:=k1<;>rw [M.matches_c1_l1] at hL1
  ·cases hL1
  refine Ac<|AZ z z z<|Aa<|A0<|wc hL1 z (fun hL1=>?_) fun hL1=>?_
  ·refine A5<|Am<|A0<|A4<|Ac<|Ae z z<|be hL1 fun x2 hx1 hL1=>A9 Ag ty3 h2 hx1 z z z fun b2 o1 h3=>AD ty3 h3 hC2.keep z z fun v3 h4=>?_
   obtain rfl:=Bo h4
   refine Af z z<|Af z z<|Aa<|A0<|W_drawn 11 z hmix fun w3 hB3=>have hC3:=hC2.grow hB3;tf 0 AB Aq z z z z z<|tm 2 z z z<|tf 5 AO Aq z z z z z<|tm 7 z z z<|be hL1 fun x3 hx2 hL1=>be hL1 fun x4 hx3 hL1=>wAS (l':=[(2,(ptr pb2 0)),(3,(ptr b1 0)),(5,(I x1)),(6,(I x2)),(13,v2),(14,(I (List.length ax1.2.1:Int))),(15,(I x1)),(16,(.bool (decide (x1 < (List.length ax1.2.1:Int))))),(17,(I x1)),(18,(ptr b2 o1)),(19,(I x2)),(20,(ptr b1 1)),(22,(I x2)),(25,(ptr pb2 (0+1))),(27,(I x1))]) ⟨z,z,z,z,z,z,z,z,z,z,z,z,z,z,z,A6⟩<|Bg [⟨1,[],fun vs=>AQ u1,[]⟩,⟨3,[],fun vs=>Cd [] w0 x3,[]⟩,⟨4,[],fun vs=>AQ (I x3),[]⟩,⟨6,[],fun vs=>Cj [] w0 ax2.2,[]⟩,⟨8,[],fun vs=>Cd [] w0 x4,[]⟩,⟨9,[],fun vs=>AQ (I x4),[]⟩] [[],[1],[3],[],[6],[8]] 1 z (by kernel_rfl) (by kernel_rfl) z ?_ ?_
   ·refine An z ?_ ?_
    ·intro w4 hB4
     refine At<|⟨_,z,?_⟩
     exact Al (hC3.grow hB4) 0 z z Au z z<|Aa<|A1 (Aj _ _) z z ⟨z,z⟩
    refine An z ?_ ?_
    ·intro w4 hB4
     refine AG z z z ?_
     rintro _ _ ⟨rfl,rfl⟩ _
     refine At<|⟨_,z,?_⟩
     exact A9 Ag ty3 g1 hx2 z z z fun b3 o2 h5=>Aa<|A1 (Aj _ _) z z ⟨z,_,_,z,h5⟩
    refine An z ?_ ?_
    ·intro w4 hB4
     refine AG z z z ?_
     rintro _ _ ⟨rfl,b3,o2,rfl,h5⟩ _
     refine At<|⟨_,z,?_⟩
     refine AD ty3 h5 (hC3.keep.then hB4) z z (fun v4 h6=>?_)
     obtain rfl:=Bo h6
     exact Aa<|A1 (Aj _ _) z z ⟨z,z⟩
    refine An z ?_ ?_
    ·intro w4 hB4
     refine At<|⟨_,z,?_⟩
     exact AD ty24 g3.snd (hC3.keep.then hB4) z z fun v5 h7=>Aa<|A1 (Aj _ _) z z ⟨z,h7⟩
    refine An z ?_ ?_
    ·intro w4 hB4
     refine AG z z z ?_
     rintro v5 _ ⟨rfl,h7⟩ _
     refine At<|⟨_,z,?_⟩
     exact A9 Ag ty3 h7 hx3 z z z fun b4 o3 h8=>Aa<|A1 (Aj _ _) z z ⟨z,_,_,z,h8⟩
    refine An z ?_ ?_
    ·intro w4 hB4
     refine AG z z z ?_
     rintro _ _ ⟨rfl,b4,o3,rfl,h8⟩ _
     refine At<|⟨_,z,?_⟩
     refine AD ty3 h8 (hC3.keep.then hB4) z z (fun v6 h9=>?_)
     obtain rfl:=Bo h9
     exact Aa<|A1 (Aj _ _) z z ⟨z,z⟩
    exact AX
   intro w5 hB5
   refine Ap z z z ?_
   rintro _ _ ⟨rfl,rfl⟩
   refine Ap z z z ?_
   rintro _ _ ⟨rfl,b3,o2,rfl,h5⟩
   refine Ap z z z ?_
   rintro _ _ ⟨rfl,rfl⟩
   refine Ap z z z ?_
   rintro v5 _ ⟨rfl,h7⟩
   refine Ap z z z ?_
   rintro _ _ ⟨rfl,b4,o3,rfl,h8⟩
   refine Ap z z z ?_
   rintro _ _ ⟨rfl,rfl⟩
   refine Bm fun hn1 hb1=>have hC4:=hC3.grow hB5;tk 10 z z (CM z z)<|BQ z z z<|Aa<|dn<|Am<|wc hL1 z (fun hL1=>?_) fun hL1=>?_
   ·refine Ac<|Af z z<|Aa<|AF<|AT<|Ax<|Ax<|AT<|Ax<|Ax<|?_
    obtain rfl:=Ab hL1
    dsimp only at hF
    exact rB hF z z hC4
   exact A5<|AN<|Am<|AL<|AW z z z<|Ae z z<|Aa<|nS<|⟨k1,Aw _,w64 (x1+1),z,(((Ao hB2).then hB3).then hB5).below,hC4,hL1⟩
  refine Bi (A2 (A2 (AM ?_)))
  have hC5:=hC2.h0
  exact nS<|⟨Ab hL1,z,(Ao hB2).below,hC5⟩
 rintro _ w6 ⟨rfl,rfl,hB6,hC6⟩
 try dsimp only at hF
 exact Ac<|Af z z<|Aa<|AF<|rB hF z z hC6
theorem c_Slices_IndexFunc_Limpl_Fact_impl_Fact_M_matches_c1 {w0:World} (a1:Tc) (u1:Value) (g1:RO [] w0 u1 a1) (pb1:Nat) (ax1:Te) (g2:ROAt [] w0 pb1 0 ax1) (pb2:Nat) (ax2:Tb) (g3:ROAt [] w0 pb2 0 ax2) (rr:Int) (hF:Slices.IndexFunc_Limpl_Fact_impl_Fact_M_matches_c1 a1 ax1 ax2=some rr) :
 Calls Tryz.prog 189 [u1,(.func (.func 196) #[] #[(ptr pb1 0),(ptr pb2 0)])].toArray w0 fun e w'=>∃v,e=.returned v∧Res w0 rr v w':=by
 refine Av CF z z ?_
 have hC0:=A3 w0
 unfold Slices.IndexFunc_Limpl_Fact_impl_Fact_M_matches_c1 at hF
 refine Ac<|Af z z<|Aa<|A0<|Ac<|Ae z z<|AH Ak g1 z z<|Ae z z<|Aa<|be hF fun r1 hr1 hF=>wN (fun l w=>.inl ()=r1∧l=[]∧Below w0.heap.size w0 w∧Ctx [] w0 w []) ?_ ?_
 ·refine A4<|wT<|Bj (fun k l w=>∃x1:Int,l=[(0,u1),(1,(.func (.func 196) #[] #[(ptr pb1 0),(ptr pb2 0)])),(7,(I (List.length a1:Int))),(8,(I x1))]∧Below w0.heap.size w0 w∧Ctx [] w0 w []∧Slices.IndexFunc_Limpl_Fact_impl_Fact_M_matches_c1_l1 a1 ax1 ax2 k x1=some r1) FUEL ⟨0,z,(Aj _ _),hC0,hr1⟩<|?_
  clear hr1
  rintro k1 _ w1 ⟨x1,rfl,hB1,hC1,hL1⟩
  obtain _|k1:=k1<;>rw [Slices.IndexFunc_Limpl_Fact_impl_Fact_M_matches_c1_l1] at hL1
  ·cases hL1
  refine Ac<|AZ z z z<|Aa<|A0<|wc hL1 z (fun hL1=>?_) fun hL1=>?_
  ·refine A5<|Am<|A0<|A4<|Ac<|Ae z z<|Af z z<|Aa<|Ac<|Ae z z<|Ae z z<|Ae z z<|be hL1 fun x2 hx1 hL1=>A9 Ak ty77 g1 hx1 z z z fun b1 o1 h1=>AD ty77 h1 hC1.keep z z fun v1 h2=>?_
   obtain ⟨v2,rfl,h3⟩:=BE h2
   refine be hL1 fun x3 hr2 hL1=>BL (cap:=[(ptr pb1 0),(ptr pb2 0)]) Tryz.call196 z z z (c_M_matches_c1 x2 v2 (h3.now hC1.keep) pb1 ax1 (g2.now hC1.keep) pb2 ax2 (g3.now hC1.keep) x3 hr2) fun _ w2 hv1=>?_
   obtain ⟨rfl,hB2⟩:=BM hv1
   have hC2:=hC1.grow hB2
   refine Aa<|wc hL1 z (fun hL1=>?_) fun hL1=>?_
   ·refine Ac<|Ae z z<|Af z z<|Aa<|AF<|AT<|Ax<|Ax<|AT<|Ax<|Ax<|?_
    obtain rfl:=Ab hL1
    dsimp only at hF
    exact rI hF z z hC2
   exact A5<|AN<|Am<|AL<|AW z z z<|Ae z z<|Aa<|nS<|⟨k1,Aw _,w64 (x1+1),z,((Ao hB1).then hB2).below,hC2,hL1⟩
  refine Bi (A2 (A2 (AM ?_)))
  exact nS<|⟨Ab hL1,z,(Ao hB1).below,hC1⟩
 rintro _ w3 ⟨rfl,rfl,hB3,hC3⟩
 try dsimp only at hF
 exact Ac<|Af z z<|Aa<|AF<|rI hF z z hC3
theorem c_Slices_DeleteFunc_Limpl_Fact_impl_Fact_M_matches_c1 {Fs:List Tn} {w0:World} (a1:Tc) (u1:Value) (pb1:Nat) (ax1:Te) (g1:ROAt Fs.flatten w0 pb1 0 ax1) (pb2:Nat) (ax2:Tb) (g2:ROAt Fs.flatten w0 pb2 0 ax2) (hH:Hold [Ad u1 (a1:Tc)] w0 Fs) (hn:Fs.flatten.Nodup) (rr:Tc) (hF:Slices.DeleteFunc_Limpl_Fact_impl_Fact_M_matches_c1 a1 ax1 ax2=some rr) :
 Calls Tryz.prog 195 [u1,(.func (.func 196) #[] #[(ptr pb1 0),(ptr pb2 0)])].toArray w0 fun e w'=>∃v,e=.returned v∧∃q0:Value,v=q0∧Ctx Fs.flatten w0 w' [Ad q0 (rr:Tc)]:=by
 refine Av Tryz.func195 z z ?_
 have hC0:=B7 hH hn
 unfold Slices.DeleteFunc_Limpl_Fact_impl_Fact_M_matches_c1 at hF
 refine be hF fun x hx hF=>Ac<|Af z z<|Aa<|Ac<|Ae z z<|Ae z z<|ci CG z z (c_Slices_IndexFunc_Limpl_Fact_impl_Fact_M_matches_c1 a1 u1 (hC0.ro 0 z) pb1 ax1 (g1.now (Ay _ _)) pb2 ax2 (g2.now (Ay _ _)) x hx) fun w1 hB1=>have hC1:=hC0.grow hB1;Af z z<|Aa<|A0<|Ac<|Ae z z<|BD z z z<|?_
 by_cases hx1:x=-1
 ·rw [if_pos hx1] at hF
  obtain rfl:=Ab hF
  rw [decide_eq_true hx1]
  exact Aa<|C4 z<|Ac<|Ae z z<|Af z z<|Aa<|AF<|Ax<|BI z z<|⟨_,z,_,z,hC1⟩
 rw [if_neg hx1] at hF
 have hr:0 ≤ x∧x < (a1.length:Int):=Classical.byContradiction fun h=>by rw [if_neg h] at hF; cases hF
 rw [if_pos hr] at hF
 obtain ⟨m,rfl⟩:∃m:Nat,x=m:=⟨x.toNat,by omega⟩
 have hm:m < a1.length:=by omega
 have hlim:=(hC0.ro 0 z).lt
 simp only [maxLen] at hlim
 rw [Int.toNat_natCast] at hF
 rw [decide_eq_false hx1]
 refine Aa<|C5 z<|A5<|Am<|A0<|Ac<|Ae z z<|AW z z z<|?_
 rw [show w64 ((m:Int)+1)=((m+1:Nat):Int) by rw [w64_id (by omega) (by omega)]; omega]
 refine Af z z<|Aa<|?_
 obtain ⟨b,c,rfl,hc1,hc2,hD0⟩:=hC1.del_open hm
 have hml:(a1.take m).length=m:=by rw [List.length_take]; omega
 refine wN (fun l w=>∃kept:List Tb,∃g:Nat,l=[(0,.slice (some ⟨b,0,none⟩) a1.length c),(5,.int .i64 (kept.length:Int))]∧0 < g∧kept.length+g=a1.length∧kept=rr∧Ctx Fs.flatten w0 w [Item.del b c kept g ([]:List Tb)]) ?_ ?_
 ·refine A4<|wT<|Bj (fun k l w=>∃kept:List Tb,∃g:Nat,∃rest:List Tb,l=[(0,.slice (some ⟨b,0,none⟩) a1.length c),(1,(.func (.func 196) #[] #[(ptr pb1 0),(ptr pb2 0)])),(5,.int .i64 (kept.length:Int)),(6,.int .i64 ((kept.length+g:Nat):Int))]∧0 < g∧kept.length+g+rest.length=a1.length∧dfl (fun e=>M.matches_c1 e ax1 ax2) kept rest=some rr∧k=rest.length∧Ctx Fs.flatten w0 w [Item.del b c kept g rest]) (a1.drop (m+1)).length ⟨a1.take m,1,a1.drop (m+1),by rw [hml],by omega,by rw [hml,List.length_drop]; omega,hF,z,hD0⟩<|?_
  clear hF hD0
  rintro k1 _ w2 ⟨kept,g,rest,rfl,hg,hlen,hL,hk,hD⟩
  refine A0<|Ac<|Ae z z<|Ae z z<|WL_len_raw Ak z z<|AZ z z z<|?_
  cases rest with
  | nil =>
   have hq:=Ab hL
   simp only [List.length_nil,Nat.add_zero] at hlen
   rw [decide_eq_false (show ¬ ((kept.length+g:Nat):Int) < (a1.length:Int) by omega)]
   exact Aa<|C5 z<|Bi<|A2<|A2<|AM<|nS<|⟨kept,g,z,hg,hlen,hq,hD⟩
  | cons x rest =>
   simp only [List.length_cons] at hlen hk
   rw [decide_eq_true (show ((kept.length+g:Nat):Int) < (a1.length:Int) by omega)]
   refine Aa<|C4 z<|A5<|Am<|A0<|A4<|Ac<|Ae z z<|Ae z z<|WL_index_raw Ak ty77 (show kept.length+g < a1.length by omega) z z z<|?_
   obtain ⟨cs,hcs,hD1⟩:=hD.del_head
   obtain ⟨hro,row,T,hh,hrow⟩:=hD1.delh_row
   refine WL_load_raw ty77 hh (by rw [Nat.zero_add]; exact hrow) hcs z z ?_
   obtain ⟨e1,hce,_⟩:=BE hro
   obtain rfl:=cells_of_agg (cs':=[(I x.1),e1]) hce
   rw [show mkv (Rep.agg Tb) [(I x.1),e1]=(.agg #[(I x.1),e1]) from z]
   refine WL_alloc hD1 zero77 z z (fun b7 w3 hD2 hB2=>?_)
   have phr:=hD2.delh_ro (α:=Tb) 1 z
   obtain ⟨pf0,phe,pg0⟩:=BE phr
   replace phe:=cells_of_agg (cs:=[(I x.1),e1]) (cs':=[(I x.1),pf0]) phe
   simp only [List.cons.injEq,and_true,true_and] at phe
   obtain rfl:=phe
   refine WL_store_box_agg (cs':=[(I x.1),e1]) (new:=[(I x.1),e1]) hD2 0 z z (fac z<|fac (Br pg0)<|fa0) z Bb z z (fun w4 hD3=>?_)
   try dsimp only [List.set] at hD3
   refine Aa<|Ac<|Ae z z<|Az [(I x.1),e1] hD3 0 z z z Bw Bb z z<|?_
   have qhr:=hD3.delh_ro (α:=Tb) 1 z
   obtain ⟨qf0,qhe,qg0⟩:=BE qhr
   replace qhe:=cells_of_agg (cs:=[(I x.1),e1]) (cs':=[(I x.1),qf0]) qhe
   simp only [List.cons.injEq,and_true,true_and] at qhe
   obtain rfl:=qhe
   obtain ⟨q,hq,hL⟩:=bind_some (show (M.matches_c1 x ax1 ax2).bind (fun b=>dfl (fun e=>M.matches_c1 e ax1 ax2) (if b then kept else kept ++ [x]) rest)=some rr from hL)
   refine BL (cap:=[(ptr pb1 0),(ptr pb2 0)]) Tryz.call196 z z z (c_M_matches_c1 x e1 qg0 pb1 ax1 (g1.now hD3.keep) pb2 ax2 (g2.now hD3.keep) q hq) ?_
   intro _ w5 hv2
   obtain ⟨rfl,hB5⟩:=BM hv2
   have hD4:=hD3.grow hB5
   refine Bv z z<|Aa<|W_cond z (fun hq1=>?_) (fun hq1=>?_)
   ·have hqf:q=false:=by simpa using hq1
    rw [hqf] at hL
    rw [if_neg (by simp)] at hL
    refine Ac<|Ae z z<|Ae z z<|Az [(I x.1),e1] hD4 0 z z z Bw Bb z z<|WL_index_raw Ak ty77 (show kept.length < a1.length by omega) z z z<|WL_store_del hD4.swap hg ty77 z z z fun w6 hD5=>Aa<|AL<|Ae z z<|AW z z z<|?_
    rw [show w64 ((kept.length:Int)+1)=((kept ++ [x]).length:Int) by rw [w64_id (by omega) (by omega),List.length_append]; rfl]
    refine Af z z<|Aa<|AN<|Am<|AL<|Ae z z<|AW z z z<|?_
    rw [show w64 (((kept.length+g:Nat):Int)+1)=(((kept ++ [x]).length+g:Nat):Int) by rw [w64_id (by omega) (by omega),List.length_append]; simp only [List.length_cons,List.length_nil]; omega]
    exact Af z z<|Aa<|nS<|⟨rest.length,by omega,kept ++ [x],g,rest,z,hg,by rw [List.length_append]; simp only [List.length_cons,List.length_nil]; omega,hL,z,hD5.headN 1⟩
   have hqt:q=true:=by simpa using hq1
   rw [hqt] at hL
   rw [if_pos z] at hL
   refine A5<|AN<|Am<|AL<|Ae z z<|AW z z z<|?_
   rw [show w64 (((kept.length+g:Nat):Int)+1)=((kept.length+(g+1):Nat):Int) by rw [w64_id (by omega) (by omega)]; omega]
   refine Af z z<|Aa<|nrm_sub (l':=[(0,.slice (some ⟨b,0,none⟩) a1.length c),(1,(.func (.func 196) #[] #[(ptr pb1 0),(ptr pb2 0)])),(5,.int .i64 (kept.length:Int)),(6,.int .i64 ((kept.length+(g+1):Nat):Int))]) ⟨z,z,z,z,A6⟩<|?_
   have hD5:=(hD4.swap.headN 1).del_skip
   exact ⟨rest.length,by omega,kept,g+1,rest,z,by omega,by omega,hL,z,hD5⟩
 rintro _ w8 ⟨kept,g,rfl,hg,hlen,rfl,hD⟩
 exact Ac<|Ae z z<|Ae z z<|Cs Ak ty77 (show kept.length < c by omega) (show kept.length ≤ a1.length by omega) hc1 z z z<|WL_clear_del hD Ak ty77 zc77 (fac z<|fac z<|fa0) hlen.symm z hg fun w9 hD9=>Aa<|Ac<|Ae z z<|Ae z z<|WL_sl_h Ak ty77 (hi:=kept.length) (by omega) (by omega) z z z<|Af z z<|Aa<|AF<|BI z z<|⟨_,z,_,z,hD9⟩
theorem c_M_matches {w0:World} (a1:Tf) (u1:Value) (g1:RO [] w0 u1 a1) (a2:Tc) (u2:Value) (g2:RO [] w0 u2 a2) (a3:Tb) (u3:Value) (g3:RO [] w0 u3 a3.2) (rr:Tc) (hF:M.matches a1 a2 a3=some rr) :
 Calls Tryz.prog 149 [u1,u2,(.agg #[(I a3.1),u3])].toArray w0 fun e w'=>∃v,e=.returned v∧Res w0 rr v w':=by
 refine Av Tryz.func149 z z ?_
 have hC0:=A3 w0
 unfold M.matches at hF
 refine Ac<|Be (cs:=[(I a3.1),u3]) hC0 z z z fun b1 w1 hC1 hB1 hN1=>Af z z<|Aa<|Ac<|Ae z z<|fd AO A7 z z z z<|Al hC1 0 z z AU z z<|be hF fun x1 hx1 hF=>A9 Bh ty110 g1 hx1 z z z fun b2 o1 h1=>AD ty110 h1 hC1.keep z z fun v1 h2=>?_
 obtain ⟨v2,rfl,h3⟩:=CW h2
 refine Bq hC1 zero110 z z fun b3 w2 hC2 hB2 hN2=>AE (cs':=[(I x1.1),v2,(I x1.2.2.1),(I x1.2.2.2.1),(I x1.2.2.2.2)]) (new:=[(I x1.1),v2,(I x1.2.2.1),(I x1.2.2.2.1),(I x1.2.2.2.2)]) hC2 0 z z (fac z<|fac (Br h3)<|fac z<|fac z<|fac z<|fa0) z B6 z z fun w3 hC3 hKp1=>?_
 try dsimp only [List.set] at hC3
 have hk1:=AV ((Ao hB1).then hB2) (Bl (Ao hB1).size hN2) hKp1
 have hk2:=AV (Ao hB2) hN2 hKp1
 refine Aa<|Ac<|Ae z z<|be hF fun x2 hr1 hF=>AA Tryz.call104 z z (c_M_copyFacts a2 u2 (g2.now hC3.keep) x2 hr1)<|?_
 rintro v3 w4 ⟨hB3,F1,hv1,hn1,hb1⟩
 have hC4:=hC3.push hB3 (A:=Ad v3 x2) hv1 hn1 hb1
 refine BP z z<|be hF fun x3 hr2 hF=>?_
 obtain ⟨Fs1,hH1,hn2,hF1,hO1,hX1,hb2⟩:=Ctx.lend3 (As:=[Ah b3 [(I x1.1),v2,(I x1.2.2.1),(I x1.2.2.2.1),(I x1.2.2.2.2)],Ah b1 [(I a3.1),u3]]) [Ad v3 x2] hC4
 refine AA Tryz.call195 z z (c_Slices_DeleteFunc_Limpl_Fact_impl_Fact_M_matches_c1 x2 v3 b3 (x1.1,x1.2.1,x1.2.2.1,x1.2.2.2.1,x1.2.2.2.2) (roat_box (hX1 0 _ _ z) (repd_pair repd_int (repd_pair (repd_slice (Bd h3 hC4.keep hF1)) (repd_pair repd_int (repd_pair repd_int repd_int))))) b1 (a3.1,a3.2) (roat_box (hX1 1 _ _ z) (repd_pair repd_int (repd_slice (Bd g3 hC4.keep hF1)))) hH1 hn2 x3 hr2) ?_
 rintro v4 w5 ⟨_,rfl,hq1⟩
 have hC6:Ctx [] w0 w5 [Ad v4 x3,Ah b3 [(I x1.1),v2,(I x1.2.2.1),(I x1.2.2.2.1),(I x1.2.2.2.2)],Ah b1 [(I a3.1),u3]]:=hb2 _ _ hq1
 exact Af z z<|Aa<|AF<|rO hF z z hC6 0 z
theorem c_M_FitsSelf {w0:World} (a1:Ta) (u1:Value) (g1:RO [] w0 u1 a1) (a2:Tf) (u2:Value) (g2:RO [] w0 u2 a2) (a3:Td) (u3:Value) (g3:RO [] w0 u3 a3.1.2) (u4:Value) (g4:RO [] w0 u4 a3.2) (rr:Bool) (hF:M.FitsSelf a1 a2 a3=some rr) :
 Calls Tryz.prog 94 [u1,u2,(.agg #[(I a3.1.1),u3,u4])].toArray w0 fun e w'=>∃v,e=.returned v∧Res w0 rr v w':=by
 refine Av Tryz.func94 z z ?_
 have hC0:=A3 w0
 unfold M.FitsSelf at hF
 refine Ac<|Be (cs:=[(I a3.1.1),u3,u4]) hC0 z z z fun b1 w1 hC1 hB1 hN1=>Af z z<|Aa<|A0<|Ac<|Ae z z<|Ae z z<|Az [(I a3.1.1),u3,u4] hC1 0 z z z BG B3 z z<|be hF fun x1 hr1 hF=>cb Tryz.call148 z z (c_M_IsTold a1 u1 (g1.now hC1.keep) a2 u2 (g2.now hC1.keep) ((a3.1.1,a3.1.2),a3.2) u3 (g3.now hC1.keep) u4 (g4.now hC1.keep) x1 hr1) fun w2 hB2=>have hC2:=hC1.grow hB2;Bv z z<|Aa<|wc hF z (fun hF=>?_) fun hF=>?_
 ·exact Ac<|Af z z<|Aa<|AF<|Ax<|rB hF z z hC2
 refine A5<|Am<|Ac<|Ae z z<|fd AR AP z z z z<|fd AO A7 z z z z<|Al hC2 0 z z AU z z<|be hF fun x2 hx1 hF=>A9 Bh ty110 g2 hx1 z z z fun b2 o1 h1=>fd AI A7 z z z z<|AD ty3 h1.snd.snd.fst hC2.keep z z fun v1 h2=>?_
 obtain rfl:=Bo h2
 refine Af z z<|Aa<|be hF fun r1 hr2 hF=>B9 (fun l w=>∃x3:Bool,x3=r1∧l=[(6,(.bool x3))]∧Below w2.heap.size w2 w∧Ctx [] w0 w []) ?_ ?_
 ·refine W_drawn 23 z hmix fun w4 hB4=>have hC4:=hC2.grow hB4;tm 0 z z z<|tf 1 AR Bx z z z z z<|tf 3 AR AP z z z z z<|tf 7 AR Bx z z z z z<|be hr2 fun x4 hr3 hr2=>wAS (l':=[(0,u1),(1,u2),(2,(.agg #[(I a3.1.1),u3,u4])),(5,(ptr b1 0)),(6,(.bool false)),(7,(I x2.2.2.1)),(8,u1),(9,u2),(10,(.agg #[(I a3.1.1),u3,u4])),(11,(.bool x1)),(12,(.bool (!x1))),(13,u2),(14,(ptr b1 0)),(15,(ptr b1 0)),(16,(I a3.1.1)),(17,(ptr b2 o1)),(18,(ptr b2 (o1+2))),(19,(I x2.2.2.1)),(20,u2),(21,(ptr b1 2)),(23,(ptr b1 0)),(27,(ptr b1 2))]) ⟨z,z,z,z,z,z,z,z,z,z,z,z,z,z,z,z,z,z,z,z,z,z,A6⟩<|Bg [⟨2,[],fun vs=>AQ u4,[]⟩,⟨4,[],fun vs=>AQ (.agg #[(I a3.1.1),u3]),[]⟩,⟨5,[],fun vs=>BS x4,[]⟩,⟨6,[],fun vs=>AQ (I (List.length x4:Int)),[]⟩,⟨8,[],fun vs=>AQ u4,[]⟩,⟨9,[],fun vs=>AQ (I (List.length a3.2:Int)),[]⟩] [[],[],[2,4],[5],[],[8]] 13 z (by kernel_rfl) (by kernel_rfl) z ?_ ?_
  ·refine An z ?_ ?_
   ·intro w6 hB6
    refine At<|⟨_,z,?_⟩
    exact Al (hC4.grow hB6) 0 z z B8 z z<|Aa<|A1 (Aj _ _) z z ⟨z,z⟩
   refine An z ?_ ?_
   ·intro w6 hB6
    refine At<|⟨_,z,?_⟩
    exact Az [(I a3.1.1),u3] (hC4.grow hB6) 0 z z z Bu AP z z<|Aa<|A1 (Aj _ _) z z ⟨z,z⟩
   refine An z ?_ ?_
   ·intro w6 hB6
    refine AG z z z ?_
    rintro _ _ ⟨rfl,rfl⟩ _
    refine AG z z z ?_
    rintro _ _ ⟨rfl,rfl⟩ _
    refine At<|⟨_,z,?_⟩
    refine AA Tryz.call149 z z (c_M_matches a2 u2 (g2.now (hC4.keep.then hB6)) a3.2 u4 (g4.now (hC4.keep.then hB6)) (a3.1.1,a3.1.2) u3 (g3.now (hC4.keep.then hB6)) x4 hr3) ?_
    rintro v2 w5 ⟨hB5,F1,hv2,hn1,hb1⟩
    exact Aa<|BZ hB5 z z hv2 hn1 hb1 (Val.inh hv2)
   refine An z ?_ ?_
   ·intro w6 hB6
    refine AG z z z fun v2 F1 hv2 _=>At<|⟨_,z,?_⟩
    exact AH Ak (CI hv2) z z<|Aa<|A1 (Aj _ _) z z ⟨z,z⟩
   refine An z ?_ ?_
   ·intro w6 hB6
    refine At<|⟨_,z,?_⟩
    exact Al (hC4.grow hB6) 0 z z B8 z z<|Aa<|A1 (Aj _ _) z z ⟨z,z⟩
   refine An z ?_ ?_
   ·intro w6 hB6
    refine AG z z z ?_
    rintro _ _ ⟨rfl,rfl⟩ _
    refine At<|⟨_,z,?_⟩
    exact AH Ak g4 z z<|Aa<|A1 (Aj _ _) z z ⟨z,z⟩
   exact AX
  intro w7 hB7
  refine Ap z z z ?_
  rintro _ _ ⟨rfl,rfl⟩
  refine Ap z z z ?_
  rintro _ _ ⟨rfl,rfl⟩
  refine Ap z z z fun v2 F1 hv2=>Ap z z z<|?_
  rintro _ _ ⟨rfl,rfl⟩
  refine Ap z z z ?_
  rintro _ _ ⟨rfl,rfl⟩
  refine Ap z z z ?_
  rintro _ _ ⟨rfl,rfl⟩
  refine Bm ?_
  intro hn2 hb2
  have hC5:=hC4.pushL hB7 (Bs:=[Ad v2 x4]) (Fs:=[F1]) ⟨F1,_,z,hv2,z⟩ (by simpa using hn2) (fun b h=>(hb2 b (by simpa using h)).1)
  refine tk 10 z z (Dl z z)<|BD z z z<|Aa<|tm 11 z z z<|BJ (fun hc2=>?_) (fun hc2=>?_)
  ·replace hr2:=Cm hr2 hc2
   refine tn 12 z z z z z<|tg 13 z z z z (Dl z z)<|Ai z z<|BD z z z<|Aa<|tn 14 z z z z z<|BJ (fun hc3=>?_) (fun hc3=>?_)
   ·replace hr2:=Cm hr2 hc3
    refine sk 15 z z z z z<|sk 16 z z z z z<|sk 17 z z z z z<|sk 18 z z z z z<|sk 19 z z z z z<|tg 20 z z z z (Df z z)<|Ai z z<|AJ z z z<|Aa<|tp 21 z z z z<|ta 22 z z z<|dn<|?_
    have hC6:=hC5.h0
    exact nS<|⟨true,Ab hr2,z,((Ao hB4).then hB7).below,hC6⟩
   replace hr2:=Cn hr2 hc3
   refine tg 15 z z z z (BC AR z z (fun w=>⟨_,Bx w⟩) z)<|Ai z z<|fd AR Bx z z z z<|Aa<|tn 18 z z z z z<|oe 16 z<|Ai z z<|Al hC5 1 z z B8 z z<|Aa<|tg 17 z z z z (fl_len Ak g4 z)<|Ai z z<|AH Ak g4 z z<|Aa<|tg 19 z z z z (fl_leq z z)<|Ai z z<|Cv z z z<|Aa<|tg 20 z z z z (Dg z z)<|Ai z z<|AK z z z<|Aa<|tp 21 z z z z<|ta 22 z z z<|dn<|?_
   have hC7:=hC5.h0
   exact nS<|⟨(decide ((List.length a3.2:Int) ≤ x2.2.2.1)),Ab hr2,z,((Ao hB4).then hB7).below,hC7⟩
  replace hr2:=Cn hr2 hc2
  refine sk 12 z z z z z<|sk 13 z z z z z<|sk 14 z z z z z<|sk 15 z z z z z<|sk 16 z z z z z<|sk 17 z z z z z<|sk 18 z z z z z<|sk 19 z z z z z<|sk 20 z z z z z<|tq 21 z z z z<|ta 22 z z z<|dn<|?_
  have hC8:=hC5.h0
  exact nS<|⟨false,Ab hr2,z,((Ao hB4).then hB7).below,hC8⟩
 rintro _ w3 ⟨x3,rfl,rfl,hB3,hC3⟩
 exact AF<|rB hF z z hC3
theorem c_M_HasFact_c1 {w0:World} (a1:Tb) (u1:Value) (g1:RO [] w0 u1 a1.2) (pb1:Nat) (ax1:Tb) (g2:ROAt [] w0 pb1 0 ax1) (rr:Bool) (hF:M.HasFact_c1 a1 ax1=some rr) :
 Calls Tryz.prog 146 [(.agg #[(I a1.1),u1]),(ptr pb1 0)].toArray w0 fun e w'=>∃v,e=.returned v∧Res w0 rr v w':=by
 refine Av Tryz.func146 z z ?_
 have hC0:=A3 w0
 unfold M.HasFact_c1 at hF
 refine Ac<|Be (cs:=[(I a1.1),u1]) hC0 z z z fun b1 w1 hC1 hB1 hN1=>Af z z<|Aa<|Ac<|Az [(I a1.1),u1] hC1 0 z z z Bw Bb z z<|AD ty77 g2 hC1.keep z z fun v1 h1=>?_
 obtain ⟨v2,rfl,h2⟩:=BE h1
 exact be hF fun x1 hr1 hF=>ci Tryz.call147 z z (c_M_CompareFacts (a1.1,a1.2) u1 (g1.now hC1.keep) ax1 v2 (h2.now hC1.keep) x1 hr1) fun w2 hB2=>have hC2:=hC1.grow hB2;BD z z z<|Af z z<|Aa<|AF<|rB hF z z hC2
theorem c_Slices_IndexFunc_Limpl_Fact_impl_Fact_M_HasFact_c1 {w0:World} (a1:Tc) (u1:Value) (g1:RO [] w0 u1 a1) (pb1:Nat) (ax1:Tb) (g2:ROAt [] w0 pb1 0 ax1) (rr:Int) (hF:Slices.IndexFunc_Limpl_Fact_impl_Fact_M_HasFact_c1 a1 ax1=some rr) :
 Calls Tryz.prog 189 [u1,(.func (.func 146) #[] #[(ptr pb1 0)])].toArray w0 fun e w'=>∃v,e=.returned v∧Res w0 rr v w':=by
 refine Av CF z z ?_
 have hC0:=A3 w0
 unfold Slices.IndexFunc_Limpl_Fact_impl_Fact_M_HasFact_c1 at hF
 refine Ac<|Af z z<|Aa<|A0<|Ac<|Ae z z<|AH Ak g1 z z<|Ae z z<|Aa<|be hF fun r1 hr1 hF=>wN (fun l w=>.inl ()=r1∧l=[]∧Below w0.heap.size w0 w∧Ctx [] w0 w []) ?_ ?_
 ·refine A4<|wT<|Bj (fun k l w=>∃x1:Int,l=[(0,u1),(1,(.func (.func 146) #[] #[(ptr pb1 0)])),(7,(I (List.length a1:Int))),(8,(I x1))]∧Below w0.heap.size w0 w∧Ctx [] w0 w []∧Slices.IndexFunc_Limpl_Fact_impl_Fact_M_HasFact_c1_l1 a1 ax1 k x1=some r1) FUEL ⟨0,z,(Aj _ _),hC0,hr1⟩<|?_
  clear hr1
  rintro k1 _ w1 ⟨x1,rfl,hB1,hC1,hL1⟩
  obtain _|k1:=k1<;>rw [Slices.IndexFunc_Limpl_Fact_impl_Fact_M_HasFact_c1_l1] at hL1
  ·cases hL1
  refine Ac<|AZ z z z<|Aa<|A0<|wc hL1 z (fun hL1=>?_) fun hL1=>?_
  ·refine A5<|Am<|A0<|A4<|Ac<|Ae z z<|Af z z<|Aa<|Ac<|Ae z z<|Ae z z<|Ae z z<|be hL1 fun x2 hx1 hL1=>A9 Ak ty77 g1 hx1 z z z fun b1 o1 h1=>AD ty77 h1 hC1.keep z z fun v1 h2=>?_
   obtain ⟨v2,rfl,h3⟩:=BE h2
   refine be hL1 fun x3 hr2 hL1=>BL (cap:=[(ptr pb1 0)]) Tryz.call146 z z z (c_M_HasFact_c1 x2 v2 (h3.now hC1.keep) pb1 ax1 (g2.now hC1.keep) x3 hr2) fun _ w2 hv1=>?_
   obtain ⟨rfl,hB2⟩:=BM hv1
   have hC2:=hC1.grow hB2
   refine Aa<|wc hL1 z (fun hL1=>?_) fun hL1=>?_
   ·refine Ac<|Ae z z<|Af z z<|Aa<|AF<|AT<|Ax<|Ax<|AT<|Ax<|Ax<|?_
    obtain rfl:=Ab hL1
    dsimp only at hF
    exact rI hF z z hC2
   exact A5<|AN<|Am<|AL<|AW z z z<|Ae z z<|Aa<|nS<|⟨k1,Aw _,w64 (x1+1),z,((Ao hB1).then hB2).below,hC2,hL1⟩
  refine Bi (A2 (A2 (AM ?_)))
  exact nS<|⟨Ab hL1,z,(Ao hB1).below,hC1⟩
 rintro _ w3 ⟨rfl,rfl,hB3,hC3⟩
 try dsimp only at hF
 exact Ac<|Af z z<|Aa<|AF<|rI hF z z hC3
theorem c_Slices_ContainsFunc_Limpl_Fact_impl_Fact_M_HasFact_c1 {w0:World} (a1:Tc) (u1:Value) (g1:RO [] w0 u1 a1) (pb1:Nat) (ax1:Tb) (g2:ROAt [] w0 pb1 0 ax1) (rr:Bool) (hF:Slices.ContainsFunc_Limpl_Fact_impl_Fact_M_HasFact_c1 a1 ax1=some rr) :
 Calls Tryz.prog 145 [u1,(.func (.func 146) #[] #[(ptr pb1 0)])].toArray w0 fun e w'=>∃v,e=.returned v∧Res w0 rr v w':=by
 refine Av Tryz.func145 z z ?_
 have hC0:=A3 w0
 unfold Slices.ContainsFunc_Limpl_Fact_impl_Fact_M_HasFact_c1 at hF
 exact Ac<|Af z z<|Aa<|Ac<|Ae z z<|Ae z z<|be hF fun x1 hr1 hF=>ci CG z z (c_Slices_IndexFunc_Limpl_Fact_impl_Fact_M_HasFact_c1 a1 u1 (g1.now hC0.keep) pb1 ax1 (g2.now hC0.keep) x1 hr1) fun w1 hB1=>have hC1:=hC0.grow hB1;Cr z z z<|Af z z<|Aa<|AF<|rB hF z z hC1
theorem c_M_HasFact {w0:World} (a1:Tc) (u1:Value) (g1:RO [] w0 u1 a1) (a2:Tb) (u2:Value) (g2:RO [] w0 u2 a2.2) (rr:Bool) (hF:M.HasFact a1 a2=some rr) :
 Calls Tryz.prog 93 [u1,(.agg #[(I a2.1),u2])].toArray w0 fun e w'=>∃v,e=.returned v∧Res w0 rr v w':=by
 refine Av Tryz.func93 z z ?_
 have hC0:=A3 w0
 unfold M.HasFact at hF
 exact Ac<|Be (cs:=[(I a2.1),u2]) hC0 z z z fun b1 w1 hC1 hB1 hN1=>Af z z<|Aa<|Ac<|Ae z z<|BP z z<|be hF fun x1 hr1 hF=>cb Tryz.call145 z z (c_Slices_ContainsFunc_Limpl_Fact_impl_Fact_M_HasFact_c1 a1 u1 (g1.now hC1.keep) b1 (a2.1,a2.2) (hC1.boxAt 0 z (repw_pair repw_int (repw_slice (g2.now hC1.keep)))) x1 hr1) fun w2 hB2=>have hC2:=hC1.grow hB2;Af z z<|Aa<|AF<|rB hF z z hC2
theorem c_M_Told_denies {w0:World} (a1:Td) (u1:Value) (g1:RO [] w0 u1 a1.1.2) (u2:Value) (g2:RO [] w0 u2 a1.2) (a2:Tf) (u3:Value) (g3:RO [] w0 u3 a2) (a3:Tb) (u4:Value) (g4:RO [] w0 u4 a3.2) (rr:Bool) (hF:M.Told_denies a1 a2 a3=some rr) :
 Calls Tryz.prog 151 [(.agg #[(I a1.1.1),u1,u2]),u3,(.agg #[(I a3.1),u4])].toArray w0 fun e w'=>∃v,e=.returned v∧Res w0 rr v w':=by
 refine Av Tryz.func151 z z ?_
 have hC0:=A3 w0
 unfold M.Told_denies at hF
 refine Ac<|Be (cs:=[(I a1.1.1),u1,u2]) hC0 z z z fun b1 w1 hC1 hB1 hN1=>Be (cs:=[(I a3.1),u4]) hC1 z z z fun b2 w2 hC2 hB2 hN2=>Af z z<|Aa<|Ac<|Ae z z<|fd AR AP z z z z<|fd AO A7 z z z z<|Al hC2 1 z z AU z z<|be hF fun x1 hx1 hF=>A9 Bh ty110 g3 hx1 z z z fun b3 o1 h1=>fd AI A7 z z z z<|AD ty3 h1.snd.snd.fst hC2.keep z z fun v1 h2=>?_
 obtain rfl:=Bo h2
 refine Af z z<|Aa<|be hF fun r1 hr1 hF=>B9 (fun l w=>∃x2:Bool,x2=r1∧l=[(6,(.bool x2))]∧Below w2.heap.size w2 w∧Ctx [] w0 w []) ?_ ?_
 ·refine AL<|Ae z z<|Az [(I a3.1),u4] hC2 0 z z z Bw Bb z z<|Ar (vs:=[(.agg #[(I a3.1),u4])]) hC2 Ak ty77 z z z z (fac z<|fa0) z z fun b4 w4 hC4 hB4=>fd AR AP z z z z<|Az [(I a1.1.1),u1] hC4 2 z z z Bu AP z z<|be hr1 fun x3 hr2 hr1=>AA Tryz.call149 z z (c_M_matches a2 u3 (g3.now hC4.keep) ([(a3.1,a3.2)]:List Tb) (.slice (some ⟨b4,0,none⟩) 1 1) ((hC4.litRO (m:=1) 0 z (rowro_cons (repw_pair repw_int (repw_slice (g4.now hC4.keep))) rowro_nil) z (by simp [maxLen]) (by decide)).now (Ay _ _)) (a1.1.1,a1.1.2) u1 (g1.now hC4.keep) x3 hr2)<|?_
  rintro v2 w5 ⟨hB5,F1,hv1,hn1,hb1⟩
  have hC5:=hC4.push hB5 (A:=Ad v2 x3) hv1 hn1 hb1
  refine AH Ak (hC5.ro 0 z) z z<|Ck z z z<|Ae z z<|wk hr1 (fun hr1=>?_) fun hr1=>?_
  ·refine Ai z z<|fd AR Bx z z z z<|Ai z z<|Al hC5 3 z z B8 z z<|Ai z z<|Az [(I a3.1),u4] hC5 2 z z z Bw Bb z z<|be hr1 fun x4 hr3 hr1=>Ai z z<|cb Tryz.call93 z z (c_M_HasFact a1.2 u2 (g2.now hC5.keep) (a3.1,a3.2) u4 (g4.now hC5.keep) x4 hr3) fun w6 hB6=>have hC6:=hC5.grow hB6;Ai z z<|Bv z z<|AJ z z z<|Ae z z<|wk hr1 (fun hr1=>?_) fun hr1=>?_
   ·refine Ai z z<|Ae z z<|Ai z z<|BD z z z<|Ai z z<|Ae z z<|wk hr1 (fun hr1=>?_) fun hr1=>?_
    ·refine gs z z z z<|gs z z z z<|gs z z z z<|gs z z z z<|gs z z z z<|Ai z z<|AJ z z z<|AJ z z z<|Af z z<|Aa<|?_
     have hC7:=hC6.h0
     exact nS<|⟨true,Ab hr1,z,(((Ao hB4).then hB5).then hB6).below,hC7⟩
    refine Ai z z<|fd AR Bx z z z z<|Ai z z<|Al hC6 3 z z B8 z z<|Ai z z<|AH Ak g2 z z<|Ai z z<|Ae z z<|Ai z z<|AZ z z z<|Ai z z<|AK z z z<|AJ z z z<|Af z z<|Aa<|?_
    have hC8:=hC6.h0
    exact nS<|⟨(decide ((List.length a1.2:Int) < x1.2.2.1)),Ab hr1,z,(((Ao hB4).then hB5).then hB6).below,hC8⟩
   refine gs z z z z<|gs z z z z<|gs z z z z<|gs z z z z<|gs z z z z<|gs z z z z<|gs z z z z<|gs z z z z<|gs z z z z<|AK z z z<|Af z z<|Aa<|?_
   have hC9:=hC6.h0
   exact nS<|⟨false,Ab hr1,z,(((Ao hB4).then hB5).then hB6).below,hC9⟩
  refine gs z z z z<|gs z z z z<|gs z z z z<|gs z z z z<|gs z z z z<|AK z z z<|Ae z z<|gs z z z z<|gs z z z z<|gs z z z z<|gs z z z z<|gs z z z z<|gs z z z z<|gs z z z z<|gs z z z z<|gs z z z z<|AK z z z<|Af z z<|Aa<|?_
  have hC10:=hC5.h0
  exact nS<|⟨false,Ab hr1,z,((Ao hB4).then hB5).below,hC10⟩
 rintro _ w3 ⟨x2,rfl,rfl,hB3,hC3⟩
 exact AF<|rB hF z z hC3
theorem c_M_Disagree_c1 {w0:World} (a1:Tb) (u1:Value) (g1:RO [] w0 u1 a1.2) (pb1:Nat) (ax1:Td) (g2:ROAt [] w0 pb1 0 ax1) (pb2:Nat) (ax2:Tf) (g3:ROAt [] w0 pb2 0 ax2) (rr:Bool) (hF:M.Disagree_c1 a1 ax1 ax2=some rr) :
 Calls Tryz.prog 150 [(.agg #[(I a1.1),u1]),(ptr pb1 0),(ptr pb2 0)].toArray w0 fun e w'=>∃v,e=.returned v∧Res w0 rr v w':=by
 refine Av Tryz.func150 z z ?_
 have hC0:=A3 w0
 unfold M.Disagree_c1 at hF
 refine Ac<|Be (cs:=[(I a1.1),u1]) hC0 z z z fun b1 w1 hC1 hB1 hN1=>Af z z<|Aa<|Ac<|AD ty84 g2 hC1.keep z z fun v1 h1=>?_
 obtain ⟨v2,v3,rfl,h2,h3⟩:=C2 h1
 exact AD ty25 g3 hC1.keep z z fun v4 h4=>Az [(I a1.1),u1] hC1 0 z z z Bw Bb z z<|be hF fun x1 hr1 hF=>cb Tryz.call151 z z (c_M_Told_denies ax1 v2 (h2.now hC1.keep) v3 (h3.now hC1.keep) ax2 v4 (h4.now hC1.keep) (a1.1,a1.2) u1 (g1.now hC1.keep) x1 hr1) fun w2 hB2=>have hC2:=hC1.grow hB2;Af z z<|Aa<|AF<|rB hF z z hC2
theorem c_M_Disagree_c2 {w0:World} (a1:Tb) (u1:Value) (g1:RO [] w0 u1 a1.2) (pb1:Nat) (ax1:Td) (g2:ROAt [] w0 pb1 0 ax1) (pb2:Nat) (ax2:Tf) (g3:ROAt [] w0 pb2 0 ax2) (rr:Bool) (hF:M.Disagree_c2 a1 ax1 ax2=some rr) :
 Calls Tryz.prog 152 [(.agg #[(I a1.1),u1]),(ptr pb1 0),(ptr pb2 0)].toArray w0 fun e w'=>∃v,e=.returned v∧Res w0 rr v w':=by
 refine Av Tryz.func152 z z ?_
 have hC0:=A3 w0
 unfold M.Disagree_c2 at hF
 refine Ac<|Be (cs:=[(I a1.1),u1]) hC0 z z z fun b1 w1 hC1 hB1 hN1=>Af z z<|Aa<|Ac<|AD ty84 g2 hC1.keep z z fun v1 h1=>?_
 obtain ⟨v2,v3,rfl,h2,h3⟩:=C2 h1
 exact AD ty25 g3 hC1.keep z z fun v4 h4=>Az [(I a1.1),u1] hC1 0 z z z Bw Bb z z<|be hF fun x1 hr1 hF=>cb Tryz.call151 z z (c_M_Told_denies ax1 v2 (h2.now hC1.keep) v3 (h3.now hC1.keep) ax2 v4 (h4.now hC1.keep) (a1.1,a1.2) u1 (g1.now hC1.keep) x1 hr1) fun w2 hB2=>have hC2:=hC1.grow hB2;Af z z<|Aa<|AF<|rB hF z z hC2
theorem c_Slices_IndexFunc_Limpl_Fact_impl_Fact_M_Disagree_c1 {w0:World} (a1:Tc) (u1:Value) (g1:RO [] w0 u1 a1) (pb1:Nat) (ax1:Td) (g2:ROAt [] w0 pb1 0 ax1) (pb2:Nat) (ax2:Tf) (g3:ROAt [] w0 pb2 0 ax2) (rr:Int) (hF:Slices.IndexFunc_Limpl_Fact_impl_Fact_M_Disagree_c1 a1 ax1 ax2=some rr) :
 Calls Tryz.prog 189 [u1,(.func (.func 150) #[] #[(ptr pb1 0),(ptr pb2 0)])].toArray w0 fun e w'=>∃v,e=.returned v∧Res w0 rr v w':=by
 refine Av CF z z ?_
 have hC0:=A3 w0
 unfold Slices.IndexFunc_Limpl_Fact_impl_Fact_M_Disagree_c1 at hF
 refine Ac<|Af z z<|Aa<|A0<|Ac<|Ae z z<|AH Ak g1 z z<|Ae z z<|Aa<|be hF fun r1 hr1 hF=>wN (fun l w=>.inl ()=r1∧l=[]∧Below w0.heap.size w0 w∧Ctx [] w0 w []) ?_ ?_
 ·refine A4<|wT<|Bj (fun k l w=>∃x1:Int,l=[(0,u1),(1,(.func (.func 150) #[] #[(ptr pb1 0),(ptr pb2 0)])),(7,(I (List.length a1:Int))),(8,(I x1))]∧Below w0.heap.size w0 w∧Ctx [] w0 w []∧Slices.IndexFunc_Limpl_Fact_impl_Fact_M_Disagree_c1_l1 a1 ax1 ax2 k x1=some r1) FUEL ⟨0,z,(Aj _ _),hC0,hr1⟩<|?_
  clear hr1
  rintro k1 _ w1 ⟨x1,rfl,hB1,hC1,hL1⟩
  obtain _|k1:=k1<;>rw [Slices.IndexFunc_Limpl_Fact_impl_Fact_M_Disagree_c1_l1] at hL1
  ·cases hL1
  refine Ac<|AZ z z z<|Aa<|A0<|wc hL1 z (fun hL1=>?_) fun hL1=>?_
  ·refine A5<|Am<|A0<|A4<|Ac<|Ae z z<|Af z z<|Aa<|Ac<|Ae z z<|Ae z z<|Ae z z<|be hL1 fun x2 hx1 hL1=>A9 Ak ty77 g1 hx1 z z z fun b1 o1 h1=>AD ty77 h1 hC1.keep z z fun v1 h2=>?_
   obtain ⟨v2,rfl,h3⟩:=BE h2
   refine be hL1 fun x3 hr2 hL1=>BL (cap:=[(ptr pb1 0),(ptr pb2 0)]) Tryz.call150 z z z (c_M_Disagree_c1 x2 v2 (h3.now hC1.keep) pb1 ax1 (g2.now hC1.keep) pb2 ax2 (g3.now hC1.keep) x3 hr2) fun _ w2 hv1=>?_
   obtain ⟨rfl,hB2⟩:=BM hv1
   have hC2:=hC1.grow hB2
   refine Aa<|wc hL1 z (fun hL1=>?_) fun hL1=>?_
   ·refine Ac<|Ae z z<|Af z z<|Aa<|AF<|AT<|Ax<|Ax<|AT<|Ax<|Ax<|?_
    obtain rfl:=Ab hL1
    dsimp only at hF
    exact rI hF z z hC2
   exact A5<|AN<|Am<|AL<|AW z z z<|Ae z z<|Aa<|nS<|⟨k1,Aw _,w64 (x1+1),z,((Ao hB1).then hB2).below,hC2,hL1⟩
  refine Bi (A2 (A2 (AM ?_)))
  exact nS<|⟨Ab hL1,z,(Ao hB1).below,hC1⟩
 rintro _ w3 ⟨rfl,rfl,hB3,hC3⟩
 try dsimp only at hF
 exact Ac<|Af z z<|Aa<|AF<|rI hF z z hC3
theorem c_Slices_ContainsFunc_Limpl_Fact_impl_Fact_M_Disagree_c1 {w0:World} (a1:Tc) (u1:Value) (g1:RO [] w0 u1 a1) (pb1:Nat) (ax1:Td) (g2:ROAt [] w0 pb1 0 ax1) (pb2:Nat) (ax2:Tf) (g3:ROAt [] w0 pb2 0 ax2) (rr:Bool) (hF:Slices.ContainsFunc_Limpl_Fact_impl_Fact_M_Disagree_c1 a1 ax1 ax2=some rr) :
 Calls Tryz.prog 145 [u1,(.func (.func 150) #[] #[(ptr pb1 0),(ptr pb2 0)])].toArray w0 fun e w'=>∃v,e=.returned v∧Res w0 rr v w':=by
 refine Av Tryz.func145 z z ?_
 have hC0:=A3 w0
 unfold Slices.ContainsFunc_Limpl_Fact_impl_Fact_M_Disagree_c1 at hF
 exact Ac<|Af z z<|Aa<|Ac<|Ae z z<|Ae z z<|be hF fun x1 hr1 hF=>ci CG z z (c_Slices_IndexFunc_Limpl_Fact_impl_Fact_M_Disagree_c1 a1 u1 (g1.now hC0.keep) pb1 ax1 (g2.now hC0.keep) pb2 ax2 (g3.now hC0.keep) x1 hr1) fun w1 hB1=>have hC1:=hC0.grow hB1;Cr z z z<|Af z z<|Aa<|AF<|rB hF z z hC1
theorem c_Slices_IndexFunc_Limpl_Fact_impl_Fact_M_Disagree_c2 {w0:World} (a1:Tc) (u1:Value) (g1:RO [] w0 u1 a1) (pb1:Nat) (ax1:Td) (g2:ROAt [] w0 pb1 0 ax1) (pb2:Nat) (ax2:Tf) (g3:ROAt [] w0 pb2 0 ax2) (rr:Int) (hF:Slices.IndexFunc_Limpl_Fact_impl_Fact_M_Disagree_c2 a1 ax1 ax2=some rr) :
 Calls Tryz.prog 189 [u1,(.func (.func 152) #[] #[(ptr pb1 0),(ptr pb2 0)])].toArray w0 fun e w'=>∃v,e=.returned v∧Res w0 rr v w':=by
 refine Av CF z z ?_
 have hC0:=A3 w0
 unfold Slices.IndexFunc_Limpl_Fact_impl_Fact_M_Disagree_c2 at hF
 refine Ac<|Af z z<|Aa<|A0<|Ac<|Ae z z<|AH Ak g1 z z<|Ae z z<|Aa<|be hF fun r1 hr1 hF=>wN (fun l w=>.inl ()=r1∧l=[]∧Below w0.heap.size w0 w∧Ctx [] w0 w []) ?_ ?_
 ·refine A4<|wT<|Bj (fun k l w=>∃x1:Int,l=[(0,u1),(1,(.func (.func 152) #[] #[(ptr pb1 0),(ptr pb2 0)])),(7,(I (List.length a1:Int))),(8,(I x1))]∧Below w0.heap.size w0 w∧Ctx [] w0 w []∧Slices.IndexFunc_Limpl_Fact_impl_Fact_M_Disagree_c2_l1 a1 ax1 ax2 k x1=some r1) FUEL ⟨0,z,(Aj _ _),hC0,hr1⟩<|?_
  clear hr1
  rintro k1 _ w1 ⟨x1,rfl,hB1,hC1,hL1⟩
  obtain _|k1:=k1<;>rw [Slices.IndexFunc_Limpl_Fact_impl_Fact_M_Disagree_c2_l1] at hL1
  ·cases hL1
  refine Ac<|AZ z z z<|Aa<|A0<|wc hL1 z (fun hL1=>?_) fun hL1=>?_
  ·refine A5<|Am<|A0<|A4<|Ac<|Ae z z<|Af z z<|Aa<|Ac<|Ae z z<|Ae z z<|Ae z z<|be hL1 fun x2 hx1 hL1=>A9 Ak ty77 g1 hx1 z z z fun b1 o1 h1=>AD ty77 h1 hC1.keep z z fun v1 h2=>?_
   obtain ⟨v2,rfl,h3⟩:=BE h2
   refine be hL1 fun x3 hr2 hL1=>BL (cap:=[(ptr pb1 0),(ptr pb2 0)]) Tryz.call152 z z z (c_M_Disagree_c2 x2 v2 (h3.now hC1.keep) pb1 ax1 (g2.now hC1.keep) pb2 ax2 (g3.now hC1.keep) x3 hr2) fun _ w2 hv1=>?_
   obtain ⟨rfl,hB2⟩:=BM hv1
   have hC2:=hC1.grow hB2
   refine Aa<|wc hL1 z (fun hL1=>?_) fun hL1=>?_
   ·refine Ac<|Ae z z<|Af z z<|Aa<|AF<|AT<|Ax<|Ax<|AT<|Ax<|Ax<|?_
    obtain rfl:=Ab hL1
    dsimp only at hF
    exact rI hF z z hC2
   exact A5<|AN<|Am<|AL<|AW z z z<|Ae z z<|Aa<|nS<|⟨k1,Aw _,w64 (x1+1),z,((Ao hB1).then hB2).below,hC2,hL1⟩
  refine Bi (A2 (A2 (AM ?_)))
  exact nS<|⟨Ab hL1,z,(Ao hB1).below,hC1⟩
 rintro _ w3 ⟨rfl,rfl,hB3,hC3⟩
 try dsimp only at hF
 exact Ac<|Af z z<|Aa<|AF<|rI hF z z hC3
theorem c_Slices_ContainsFunc_Limpl_Fact_impl_Fact_M_Disagree_c2 {w0:World} (a1:Tc) (u1:Value) (g1:RO [] w0 u1 a1) (pb1:Nat) (ax1:Td) (g2:ROAt [] w0 pb1 0 ax1) (pb2:Nat) (ax2:Tf) (g3:ROAt [] w0 pb2 0 ax2) (rr:Bool) (hF:Slices.ContainsFunc_Limpl_Fact_impl_Fact_M_Disagree_c2 a1 ax1 ax2=some rr) :
 Calls Tryz.prog 145 [u1,(.func (.func 152) #[] #[(ptr pb1 0),(ptr pb2 0)])].toArray w0 fun e w'=>∃v,e=.returned v∧Res w0 rr v w':=by
 refine Av Tryz.func145 z z ?_
 have hC0:=A3 w0
 unfold Slices.ContainsFunc_Limpl_Fact_impl_Fact_M_Disagree_c2 at hF
 exact Ac<|Af z z<|Aa<|Ac<|Ae z z<|Ae z z<|be hF fun x1 hr1 hF=>ci CG z z (c_Slices_IndexFunc_Limpl_Fact_impl_Fact_M_Disagree_c2 a1 u1 (g1.now hC0.keep) pb1 ax1 (g2.now hC0.keep) pb2 ax2 (g3.now hC0.keep) x1 hr1) fun w1 hB1=>have hC1:=hC0.grow hB1;Cr z z z<|Af z z<|Aa<|AF<|rB hF z z hC1
theorem c_M_Disagree {w0:World} (a1:Ta) (u1:Value) (g1:RO [] w0 u1 a1) (a2:Tf) (u2:Value) (g2:RO [] w0 u2 a2) (a3:Td) (u3:Value) (g3:RO [] w0 u3 a3.1.2) (u4:Value) (g4:RO [] w0 u4 a3.2) (a4:Td) (u5:Value) (g5:RO [] w0 u5 a4.1.2) (u6:Value) (g6:RO [] w0 u6 a4.2) (rr:Bool) (hF:M.Disagree a1 a2 a3 a4=some rr) :
 Calls Tryz.prog 97 [u1,u2,(.agg #[(I a3.1.1),u3,u4]),(.agg #[(I a4.1.1),u5,u6])].toArray w0 fun e w'=>∃v,e=.returned v∧Res w0 rr v w':=by
 refine Av Tryz.func97 z z ?_
 have hC0:=A3 w0
 unfold M.Disagree at hF
 refine Ac<|Be (cs:=[u2]) hC0 (ro_cells g2) z z fun b1 w1 hC1 hB1 hN1=>Be (cs:=[(I a3.1.1),u3,u4]) hC1 z z z fun b2 w2 hC2 hB2 hN2=>Be (cs:=[(I a4.1.1),u5,u6]) hC2 z z z fun b3 w3 hC3 hB3 hN3=>Af z z<|Aa<|be hF fun r1 hr1 hF=>B9 (fun l w=>∃x1:Bool,x1=r1∧l=[(8,(.bool x1))]∧Below w3.heap.size w3 w∧Ctx [] w0 w []) ?_ ?_
 ·refine AL<|Ae z z<|Al hC3 2 z z CP z z<|Az [(I a3.1.1),u3,u4] hC3 1 z z z BG B3 z z<|be hr1 fun x2 hr2 hr1=>cb Tryz.call94 z z (c_M_FitsSelf a1 u1 (g1.now hC3.keep) a2 u2 (g2.now hC3.keep) ((a3.1.1,a3.1.2),a3.2) u3 (g3.now hC3.keep) u4 (g4.now hC3.keep) x2 hr2) fun w5 hB5=>have hC5:=hC3.grow hB5;Ae z z<|wk hr1 (fun hr1=>?_) fun hr1=>?_
  ·refine Ai z z<|Ae z z<|Ai z z<|Al hC5 2 z z CP z z<|Ai z z<|Az [(I a4.1.1),u5,u6] hC5 0 z z z BG B3 z z<|be hr1 fun x3 hr3 hr1=>Ai z z<|cb Tryz.call94 z z (c_M_FitsSelf a1 u1 (g1.now hC5.keep) a2 u2 (g2.now hC5.keep) ((a4.1.1,a4.1.2),a4.2) u5 (g5.now hC5.keep) u6 (g6.now hC5.keep) x3 hr3) fun w6 hB6=>have hC6:=hC5.grow hB6;AJ z z z<|Ae z z<|wk hr1 (fun hr1=>?_) fun hr1=>?_
   ·refine Ai z z<|fd AR Bx z z z z<|Ai z z<|Al hC6 1 z z B8 z z<|Ai z z<|BP z z<|be hr1 fun x4 hr4 hr1=>Ai z z<|cb Tryz.call145 z z (c_Slices_ContainsFunc_Limpl_Fact_impl_Fact_M_Disagree_c1 a3.2 u4 (g4.now hC6.keep) b3 ((a4.1.1,a4.1.2),a4.2) (hC6.boxAt 0 z (repw_pair (repw_pair repw_int (repw_slice (g5.now hC6.keep))) (repw_slice (g6.now hC6.keep)))) b1 a2 (hC6.boxAt 2 z (repw_slice (g2.now hC6.keep))) x4 hr4) fun w7 hB7=>have hC7:=hC6.grow hB7;Ai z z<|Ae z z<|wk hr1 (fun hr1=>?_) fun hr1=>?_
    ·refine gs z z z z<|gs z z z z<|gs z z z z<|gs z z z z<|Ai z z<|AJ z z z<|AJ z z z<|Af z z<|Aa<|?_
     have hC8:=hC7.h0
     exact nS<|⟨true,Ab hr1,z,(((Ao hB5).then hB6).then hB7).below,hC8⟩
    refine Ai z z<|fd AR Bx z z z z<|Ai z z<|Al hC7 0 z z B8 z z<|Ai z z<|BP z z<|be hr1 fun x5 hr5 hr1=>Ai z z<|cb Tryz.call145 z z (c_Slices_ContainsFunc_Limpl_Fact_impl_Fact_M_Disagree_c2 a4.2 u6 (g6.now hC7.keep) b2 ((a3.1.1,a3.1.2),a3.2) (hC7.boxAt 1 z (repw_pair (repw_pair repw_int (repw_slice (g3.now hC7.keep))) (repw_slice (g4.now hC7.keep)))) b1 a2 (hC7.boxAt 2 z (repw_slice (g2.now hC7.keep))) x5 hr5) fun w9 hB8=>have hC9:=hC7.grow hB8;Ai z z<|AK z z z<|AJ z z z<|Af z z<|Aa<|?_
    have hC10:=hC9.h0
    exact nS<|⟨x5,Ab hr1,z,((((Ao hB5).then hB6).then hB7).then hB8).below,hC10⟩
   refine gs z z z z<|gs z z z z<|gs z z z z<|gs z z z z<|gs z z z z<|gs z z z z<|gs z z z z<|gs z z z z<|gs z z z z<|gs z z z z<|AK z z z<|Af z z<|Aa<|?_
   have hC11:=hC6.h0
   exact nS<|⟨false,Ab hr1,z,((Ao hB5).then hB6).below,hC11⟩
  refine gs z z z z<|gs z z z z<|gs z z z z<|gs z z z z<|AK z z z<|Ae z z<|gs z z z z<|gs z z z z<|gs z z z z<|gs z z z z<|gs z z z z<|gs z z z z<|gs z z z z<|gs z z z z<|gs z z z z<|gs z z z z<|AK z z z<|Af z z<|Aa<|?_
  have hC12:=hC5.h0
  exact nS<|⟨false,Ab hr1,z,(Ao hB5).below,hC12⟩
 rintro _ w4 ⟨x1,rfl,rfl,hB4,hC4⟩
 exact AF<|rB hF z z hC4
theorem c_M_FirstConflict_c1 {w0:World} (a1:Td) (u1:Value) (g1:RO [] w0 u1 a1.1.2) (u2:Value) (g2:RO [] w0 u2 a1.2) (pb1:Nat) (ax1:Ta) (g3:ROAt [] w0 pb1 0 ax1) (pb2:Nat) (ax2:Tf) (g4:ROAt [] w0 pb2 0 ax2) (pb3:Nat) (ax3:Td) (g5:ROAt [] w0 pb3 0 ax3) (rr:Bool) (hF:M.FirstConflict_c1 a1 ax1 ax2 ax3=some rr) :
 Calls Tryz.prog 96 [(.agg #[(I a1.1.1),u1,u2]),(ptr pb1 0),(ptr pb2 0),(ptr pb3 0)].toArray w0 fun e w'=>∃v,e=.returned v∧Res w0 rr v w':=by
 refine Av Tryz.func96 z z ?_
 have hC0:=A3 w0
 unfold M.FirstConflict_c1 at hF
 refine Ac<|Be (cs:=[(I a1.1.1),u1,u2]) hC0 z z z fun b1 w1 hC1 hB1 hN1=>Af z z<|Aa<|Ac<|AD ty24 g3 hC1.keep z z fun v1 h1=>AD ty25 g4 hC1.keep z z fun v2 h2=>Az [(I a1.1.1),u1,u2] hC1 0 z z z BG B3 z z<|AD ty84 g5 hC1.keep z z fun v3 h3=>?_
 obtain ⟨v4,v5,rfl,h4,h5⟩:=C2 h3
 exact be hF fun x1 hr1 hF=>cb Tryz.call97 z z (c_M_Disagree ax1 v1 (h1.now hC1.keep) ax2 v2 (h2.now hC1.keep) ((a1.1.1,a1.1.2),a1.2) u1 (g1.now hC1.keep) u2 (g2.now hC1.keep) ax3 v4 (h4.now hC1.keep) v5 (h5.now hC1.keep) x1 hr1) fun w2 hB2=>have hC2:=hC1.grow hB2;Af z z<|Aa<|AF<|rB hF z z hC2
theorem c_Slices_IndexFunc_Limpl_Told_impl_Told_M_FirstConflict_c1 {w0:World} (a1:Tg) (u1:Value) (g1:RO [] w0 u1 a1) (pb1:Nat) (ax1:Ta) (g2:ROAt [] w0 pb1 0 ax1) (pb2:Nat) (ax2:Tf) (g3:ROAt [] w0 pb2 0 ax2) (pb3:Nat) (ax3:Td) (g4:ROAt [] w0 pb3 0 ax3) (rr:Int) (hF:Slices.IndexFunc_Limpl_Told_impl_Told_M_FirstConflict_c1 a1 ax1 ax2 ax3=some rr) :
 Calls Tryz.prog 95 [u1,(.func (.func 96) #[] #[(ptr pb1 0),(ptr pb2 0),(ptr pb3 0)])].toArray w0 fun e w'=>∃v,e=.returned v∧Res w0 rr v w':=by
 refine Av Tryz.func95 z z ?_
 have hC0:=A3 w0
 unfold Slices.IndexFunc_Limpl_Told_impl_Told_M_FirstConflict_c1 at hF
 refine Ac<|Af z z<|Aa<|A0<|Ac<|Ae z z<|AH A8 g1 z z<|Ae z z<|Aa<|be hF fun r1 hr1 hF=>wN (fun l w=>.inl ()=r1∧l=[]∧Below w0.heap.size w0 w∧Ctx [] w0 w []) ?_ ?_
 ·refine A4<|wT<|Bj (fun k l w=>∃x1:Int,l=[(0,u1),(1,(.func (.func 96) #[] #[(ptr pb1 0),(ptr pb2 0),(ptr pb3 0)])),(7,(I (List.length a1:Int))),(8,(I x1))]∧Below w0.heap.size w0 w∧Ctx [] w0 w []∧Slices.IndexFunc_Limpl_Told_impl_Told_M_FirstConflict_c1_l1 a1 ax1 ax2 ax3 k x1=some r1) FUEL ⟨0,z,(Aj _ _),hC0,hr1⟩<|?_
  clear hr1
  rintro k1 _ w1 ⟨x1,rfl,hB1,hC1,hL1⟩
  obtain _|k1:=k1<;>rw [Slices.IndexFunc_Limpl_Told_impl_Told_M_FirstConflict_c1_l1] at hL1
  ·cases hL1
  refine Ac<|AZ z z z<|Aa<|A0<|wc hL1 z (fun hL1=>?_) fun hL1=>?_
  ·refine A5<|Am<|A0<|A4<|Ac<|Ae z z<|Af z z<|Aa<|Ac<|Ae z z<|Ae z z<|Ae z z<|be hL1 fun x2 hx1 hL1=>A9 A8 ty84 g1 hx1 z z z fun b1 o1 h1=>AD ty84 h1 hC1.keep z z fun v1 h2=>?_
   obtain ⟨v2,v3,rfl,h3,h4⟩:=C2 h2
   refine be hL1 fun x3 hr2 hL1=>BL (cap:=[(ptr pb1 0),(ptr pb2 0),(ptr pb3 0)]) Tryz.call96 z z z (c_M_FirstConflict_c1 x2 v2 (h3.now hC1.keep) v3 (h4.now hC1.keep) pb1 ax1 (g2.now hC1.keep) pb2 ax2 (g3.now hC1.keep) pb3 ax3 (g4.now hC1.keep) x3 hr2) fun _ w2 hv1=>?_
   obtain ⟨rfl,hB2⟩:=BM hv1
   have hC2:=hC1.grow hB2
   refine Aa<|wc hL1 z (fun hL1=>?_) fun hL1=>?_
   ·refine Ac<|Ae z z<|Af z z<|Aa<|AF<|AT<|Ax<|Ax<|AT<|Ax<|Ax<|?_
    obtain rfl:=Ab hL1
    dsimp only at hF
    exact rI hF z z hC2
   exact A5<|AN<|Am<|AL<|AW z z z<|Ae z z<|Aa<|nS<|⟨k1,Aw _,w64 (x1+1),z,((Ao hB1).then hB2).below,hC2,hL1⟩
  refine Bi (A2 (A2 (AM ?_)))
  exact nS<|⟨Ab hL1,z,(Ao hB1).below,hC1⟩
 rintro _ w3 ⟨rfl,rfl,hB3,hC3⟩
 try dsimp only at hF
 exact Ac<|Af z z<|Aa<|AF<|rI hF z z hC3
theorem c_M_FirstConflict {w0:World} (a1:Ta) (u1:Value) (g1:RO [] w0 u1 a1) (a2:Tf) (u2:Value) (g2:RO [] w0 u2 a2) (a3:Tg) (u3:Value) (g3:RO [] w0 u3 a3) (rr:(Int × Int × Bool)) (hF:M.FirstConflict a1 a2 a3=some rr) :
 Calls Tryz.prog 55 [u1,u2,u3].toArray w0 fun e w'=>∃v,e=.returned v∧Res3 w0 rr.1 rr.2.1 rr.2.2 v w':=by
 refine Av Tryz.func55 z z ?_
 have hC0:=A3 w0
 unfold M.FirstConflict at hF
 refine Ac<|Be (cs:=[u1]) hC0 (ro_cells g1) z z fun b1 w1 hC1 hB1 hN1=>Be (cs:=[u2]) hC1 (ro_cells g2) z z fun b2 w2 hC2 hB2 hN2=>Af z z<|Af z z<|Af z z<|Aa<|A0<|Ac<|Ae z z<|AH A8 g3 z z<|Ae z z<|Aa<|be hF fun r1 hr1 hF=>wN (fun l w=>.inl ()=r1∧l=[]∧Ctx [] w0 w []) ?_ ?_
 ·refine A4<|wT<|Bj (fun k l w=>∃x1:Int,l=[(2,u3),(3,(ptr b1 0)),(4,(ptr b2 0)),(12,u3),(13,(I (List.length a3:Int))),(14,(I x1))]∧Ctx [] w0 w [Ah b2 [u2],Ah b1 [u1]]∧M.FirstConflict_l1 a3 a1 a2 k x1=some r1) FUEL ⟨0,z,hC2,hr1⟩<|?_
  clear hr1
  rintro k1 _ w3 ⟨x1,rfl,hC3,hL1⟩
  obtain _|k1:=k1<;>rw [M.FirstConflict_l1] at hL1
  ·cases hL1
  refine Ac<|AZ z z z<|Aa<|A0<|wc hL1 z (fun hL1=>?_) fun hL1=>?_
  ·refine A5<|Am<|A0<|A4<|Ac<|Ae z z<|be hL1 fun x2 hx1 hL1=>A9 A8 ty84 g3 hx1 z z z fun b3 o1 h1=>AD ty84 h1 hC3.keep z z fun v1 h2=>?_
   obtain ⟨v2,v3,rfl,h3,h4⟩:=C2 h2
   refine Bq hC3 zero84 z z fun b4 w4 hC4 hB4 hN3=>Af z z<|AE (cs':=[(I x2.1.1),v2,v3]) (new:=[(I x2.1.1),v2,v3]) hC4 0 z z (fac z<|fac (Br h3)<|fac (Br h4)<|fa0) z B3 z z fun w5 hC5 hKp1=>?_
   try dsimp only [List.set] at hC5
   have hk1:=AV (Ao hB4) hN3 hKp1
   refine Aa<|A0<|Ac<|Al hC5 2 z z Au z z<|Al hC5 1 z z CP z z<|Az [(I x2.1.1),v2,v3] hC5 0 z z z BG B3 z z<|be hL1 fun x3 hr2 hL1=>cb Tryz.call94 z z (c_M_FitsSelf a1 u1 (g1.now hC5.keep) a2 u2 (g2.now hC5.keep) ((x2.1.1,x2.1.2),x2.2) v2 (h3.now hC5.keep) v3 (h4.now hC5.keep) x3 hr2) fun w6 hB5=>have hC6:=hC5.grow hB5;Bv z z<|Aa<|wc hL1 z (fun hL1=>?_) fun hL1=>?_
   ·refine Ac<|Ae z z<|Ae z z<|Af z z<|Af z z<|Af z z<|Aa<|AF<|Ax<|AT<|Ax<|Ax<|AT<|Ax<|Ax<|?_
    obtain rfl:=Ab hL1
    dsimp only at hF
    obtain rfl:=Ab hF
    refine C1 z z z z ?_
    have hC7:=hC6.triv (BN (true))
    have hC8:=hC7.triv (Bt (x1))
    have hC9:=hC8.triv (Bt (x1))
    exact ⟨_,z,res3_of hC9⟩
   refine A5<|Am<|Ac<|Ae z z<|Ae z z<|be hL1 fun x4 hx2 hL1=>WL_slice_h A8 ty84 g3 hx2 z z z fun v4 h5=>BP z z<|be hL1 fun x5 hr3 hL1=>ci Tryz.call95 z z (c_Slices_IndexFunc_Limpl_Told_impl_Told_M_FirstConflict_c1 x4 v4 (h5.now hC6.keep) b1 a1 (hC6.boxAt 2 z (repw_slice (g1.now hC6.keep))) b2 a2 (hC6.boxAt 1 z (repw_slice (g2.now hC6.keep))) b4 ((x2.1.1,x2.1.2),x2.2) (hC6.boxAt 0 z (repw_pair (repw_pair repw_int (repw_slice (h3.now hC6.keep))) (repw_slice (h4.now hC6.keep)))) x5 hr3) fun w7 hB6=>have hC10:=hC6.grow hB6;Af z z<|Aa<|Ac<|Ae z z<|Cr z z z<|Aa<|wc hL1 z (fun hL1=>?_) fun hL1=>?_
   ·refine Ac<|Ae z z<|Ae z z<|Af z z<|Af z z<|Af z z<|Aa<|AF<|AT<|Ax<|Ax<|AT<|Ax<|Ax<|?_
    obtain rfl:=Ab hL1
    dsimp only at hF
    obtain rfl:=Ab hF
    refine C1 z z z z ?_
    have hC11:=hC10.triv (BN (true))
    have hC12:=hC11.triv (Bt (x1))
    have hC13:=hC12.triv (Bt (x5))
    exact ⟨_,z,res3_of hC13⟩
   exact A5<|AN<|Am<|AL<|AW z z z<|Ae z z<|Aa<|have hC14:=hC10.f2;have hC15:=hC14.f2;have hC16:=hC15.h2;nS<|⟨k1,Aw _,w64 (x1+1),z,hC16,hL1⟩
  refine Bi (A2 (A2 (AM ?_)))
  have hC17:=hC3.h0
  exact nS<|⟨Ab hL1,z,hC17⟩
 rintro _ w9 ⟨rfl,rfl,hC18⟩
 try dsimp only at hF
 refine Ac<|Af z z<|Af z z<|Af z z<|Aa<|AF<|?_
 obtain rfl:=Ab hF
 refine C1 z z z z ?_
 have hC19:=hC18.triv (BN (false))
 have hC20:=hC19.triv (Bt ((-1)))
 have hC21:=hC20.triv (Bt ((-1)))
 exact ⟨_,z,res3_of hC21⟩
theorem c_M_IsConsistent {w0:World} (a1:Ta) (u1:Value) (g1:RO [] w0 u1 a1) (a2:Tf) (u2:Value) (g2:RO [] w0 u2 a2) (a3:Tg) (u3:Value) (g3:RO [] w0 u3 a3) (rr:Bool) (hF:M.IsConsistent a1 a2 a3=some rr) :
 Calls Tryz.prog 18 [u1,u2,u3].toArray w0 fun e w'=>∃v,e=.returned v∧Res w0 rr v w':=by
 refine Av Tryz.func18 z z ?_
 have hC0:=A3 w0
 unfold M.IsConsistent at hF
 refine Ac<|Af z z<|Aa<|Ac<|Ae z z<|Ae z z<|Ae z z<|be hF fun x1 hr1 hF=>AA Tryz.call55 z z (c_M_FirstConflict a1 u1 (g1.now hC0.keep) a2 u2 (g2.now hC0.keep) a3 u3 (g3.now hC0.keep) x1 hr1)<|?_
 rintro _ w1 ⟨hB1,v1,v2,v3,F1,F2,F3,rfl,hv1,hv2,hv3,hn1,hb1⟩
 obtain ⟨rfl,rfl⟩:=val_int hv1
 obtain ⟨rfl,rfl⟩:=val_int hv2
 obtain ⟨rfl,rfl⟩:=val_bool hv3
 have hC1:=hC0.grow hB1
 refine Ae z z<|Bk z z z<|Bk z z z<|Bk z z z<|Af z z<|Af z z<|Af z z<|Aa<|be hF fun r1 hr2 hF=>B9 (fun l w=>∃x2:Bool,x2=r1∧l=[(6,(.bool x2))]∧Below w1.heap.size w1 w∧Ctx [] w0 w []) ?_ ?_
 ·refine AL<|Ae z z<|Ae z z<|be hr2 fun x3 hr3 hr2=>cb Tryz.call56 z z (c_M_AreMethods a1 u1 (g1.now hC1.keep) a2 u2 (g2.now hC1.keep) x3 hr3) fun w3 hB3=>have hC3:=hC1.grow hB3;Ae z z<|wk hr2 (fun hr2=>?_) fun hr2=>?_
  ·exact Ai z z<|Ae z z<|Ai z z<|Bv z z<|AJ z z z<|Af z z<|Aa<|nS<|⟨(!x1.2.2),Ab hr2,z,(Ao hB3).below,hC3⟩
  exact gs z z z z<|gs z z z z<|AK z z z<|Af z z<|Aa<|nS<|⟨false,Ab hr2,z,(Ao hB3).below,hC3⟩
 rintro _ w2 ⟨x2,rfl,rfl,hB2,hC2⟩
 exact AF<|rB hF z z hC2
theorem c_Slices_Index_Lint_int {w0:World} (a1:Ta) (u1:Value) (g1:RO [] w0 u1 a1) (a2:Int) (rr:Int) (hF:Slices.Index_Lint_int a1 a2=some rr) :
 Calls Tryz.prog 102 [u1,(I a2)].toArray w0 fun e w'=>∃v,e=.returned v∧Res w0 rr v w':=by
 refine Av Tryz.func102 z z ?_
 have hC0:=A3 w0
 unfold Slices.Index_Lint_int at hF
 refine Ac<|Af z z<|Aa<|A0<|Ac<|Ae z z<|AH Ag g1 z z<|Ae z z<|Aa<|be hF fun r1 hr1 hF=>wN (fun l w=>.inl ()=r1∧l=[]∧Below w0.heap.size w0 w∧Ctx [] w0 w []) ?_ ?_
 ·refine A4<|wT<|Bj (fun k l w=>∃x1:Int,l=[(0,u1),(1,(I a2)),(7,(I (List.length a1:Int))),(8,(I x1))]∧Below w0.heap.size w0 w∧Ctx [] w0 w []∧Slices.Index_Lint_int_l1 a1 a2 k x1=some r1) FUEL ⟨0,z,(Aj _ _),hC0,hr1⟩<|?_
  clear hr1
  rintro k1 _ w1 ⟨x1,rfl,hB1,hC1,hL1⟩
  obtain _|k1:=k1<;>rw [Slices.Index_Lint_int_l1] at hL1
  ·cases hL1
  refine Ac<|AZ z z z<|Aa<|A0<|wc hL1 z (fun hL1=>?_) fun hL1=>?_
  ·refine A5<|Am<|A0<|A4<|Ac<|Ae z z<|Af z z<|Aa<|Ac<|Ae z z<|Ae z z<|Ae z z<|be hL1 fun x2 hx1 hL1=>A9 Ag ty3 g1 hx1 z z z fun b1 o1 h1=>AD ty3 h1 hC1.keep z z fun v1 h2=>?_
   obtain rfl:=Bo h2
   refine BD z z z<|Aa<|wc hL1 z (fun hL1=>?_) fun hL1=>?_
   ·refine Ac<|Ae z z<|Af z z<|Aa<|AF<|AT<|Ax<|Ax<|AT<|Ax<|Ax<|?_
    obtain rfl:=Ab hL1
    dsimp only at hF
    exact rI hF z z hC1
   exact A5<|AN<|Am<|AL<|AW z z z<|Ae z z<|Aa<|nS<|⟨k1,Aw _,w64 (x1+1),z,(Ao hB1).below,hC1,hL1⟩
  refine Bi (A2 (A2 (AM ?_)))
  exact nS<|⟨Ab hL1,z,(Ao hB1).below,hC1⟩
 rintro _ w2 ⟨rfl,rfl,hB2,hC2⟩
 try dsimp only at hF
 exact Ac<|Af z z<|Aa<|AF<|rI hF z z hC2
theorem c_Slices_Contains_Lint_int {w0:World} (a1:Ta) (u1:Value) (g1:RO [] w0 u1 a1) (a2:Int) (rr:Bool) (hF:Slices.Contains_Lint_int a1 a2=some rr) :
 Calls Tryz.prog 57 [u1,(I a2)].toArray w0 fun e w'=>∃v,e=.returned v∧Res w0 rr v w':=by
 refine Av Tryz.func57 z z ?_
 have hC0:=A3 w0
 unfold Slices.Contains_Lint_int at hF
 exact Ac<|Af z z<|Aa<|Ac<|Ae z z<|Ae z z<|be hF fun x1 hr1 hF=>ci Tryz.call102 z z (c_Slices_Index_Lint_int a1 u1 (g1.now hC0.keep) a2 x1 hr1) fun w1 hB1=>have hC1:=hC0.grow hB1;Cr z z z<|Af z z<|Aa<|AF<|rB hF z z hC1
theorem c_M_copyAccess {w0:World} (a1:Tb) (u1:Value) (g1:RO [] w0 u1 a1.2) (rr:Tb) (hF:M.copyAccess a1=some rr) :
 Calls Tryz.prog 103 [(.agg #[(I a1.1),u1])].toArray w0 fun e w'=>∃v,e=.returned v∧Res w0 rr v w':=by
 refine Av Tryz.func103 z z ?_
 have hC0:=A3 w0
 unfold M.copyAccess at hF
 refine Ac<|Be (cs:=[(I a1.1),u1]) hC0 z z z fun b1 w1 hC1 hB1 hN1=>Bq hC1 zero82 z z fun b2 w2 hC2 hB2 hN2=>Aa<|A0<|W_drawn 7 z hmix fun w3 hB3=>have hC3:=hC2.grow hB3;tf 0 AO A7 z z z z z<|tf 2 AO Aq z z z z z<|be hF fun x1 hr1 hF=>wAS (l':=[(0,(.agg #[(I a1.1),u1])),(1,(ptr b1 0)),(2,(ptr b2 0)),(3,(ptr b1 0)),(5,(ptr b1 1))]) ⟨z,z,z,z,z,A6⟩<|Bg [⟨1,[],fun vs=>AQ (I a1.1),[]⟩,⟨3,[],fun vs=>AQ u1,[]⟩,⟨4,[],fun vs=>BS x1,[]⟩] [[],[],[3]] 2 z (by kernel_rfl) (by kernel_rfl) z ?_ ?_
 ·refine An z ?_ ?_
  ·intro w5 hB5
   refine At<|⟨_,z,?_⟩
   exact Al (hC3.grow hB5) 1 z z AU z z<|Aa<|A1 (Aj _ _) z z ⟨z,z⟩
  refine An z ?_ ?_
  ·intro w5 hB5
   refine At<|⟨_,z,?_⟩
   exact Al (hC3.grow hB5) 1 z z Au z z<|Aa<|A1 (Aj _ _) z z ⟨z,z⟩
  refine An z ?_ ?_
  ·intro w5 hB5
   refine AG z z z ?_
   rintro _ _ ⟨rfl,rfl⟩ _
   refine At<|⟨_,z,?_⟩
   refine AA CE z z (c_Slices_Clone_Lint_int a1.2 u1 (g1.now (hC3.keep.then hB5)) x1 hr1) ?_
   rintro v1 w4 ⟨hB4,F1,hv1,hn1,hb1⟩
   exact Aa<|BZ hB4 z z hv1 hn1 hb1 (Val.inh hv1)
  exact AX
 intro w6 hB6
 refine Ap z z z ?_
 rintro _ _ ⟨rfl,rfl⟩
 refine Ap z z z ?_
 rintro _ _ ⟨rfl,rfl⟩
 refine Ap z z z fun v1 F1 hv1=>Bm fun hn2 hb2=>?_
 have hC4:=hC3.pushL hB6 (Bs:=[Ad v1 x1]) (Fs:=[F1]) ⟨F1,_,z,hv1,z⟩ (by simpa using hn2) (fun b h=>(hb2 b (by simpa using h)).1)
 refine tk 5 z z (BR (vs:=[(0,(I a1.1)),(1,v1)]) z z (built82_0_1 z (ro_cells (hC4.ro 0 z))))<|B4 (vs:=[(0,(I a1.1)),(1,v1)]) z z z (built82_0_1 z (ro_cells (hC4.ro 0 z)))<|Aa<|oe 6 z<|AE (cs':=[(I a1.1),v1]) (new:=[(I a1.1),v1]) hC4 1 z z (fac z<|fac (Br (hC4.ro 0 z))<|fa0) z AP z z fun w7 hC5 hKp1=>?_
 try dsimp only [List.set] at hC5
 have hk1:=AV ((((Ao hB1).then hB2).then hB3).then hB6) (Bl (Ao hB1).size hN2) hKp1
 have hk2:=AV (((Ao hB2).then hB3).then hB6) hN2 hKp1
 refine Aa<|dn<|Am<|AF<|?_
 obtain rfl:=Ab hF
 refine BY z (rv_cell_agg (cs':=[(I a1.1),v1]) hC5 (i:=1) z z z Bu AP z) ?_
 have hC6:=Dk a1.1 v1 x1 hC5
 exact ⟨_,z,CJ hC6 0 z⟩
theorem c_M_copyTold {w0:World} (a1:Td) (u1:Value) (g1:RO [] w0 u1 a1.1.2) (u2:Value) (g2:RO [] w0 u2 a1.2) (rr:Td) (hF:M.copyTold a1=some rr) :
 Calls Tryz.prog 58 [(.agg #[(I a1.1.1),u1,u2])].toArray w0 fun e w'=>∃v,e=.returned v∧Res w0 rr v w':=by
 refine Av Tryz.func58 z z ?_
 have hC0:=A3 w0
 unfold M.copyTold at hF
 refine Ac<|Be (cs:=[(I a1.1.1),u1,u2]) hC0 z z z fun b1 w1 hC1 hB1 hN1=>Bq hC1 zero84 z z fun b2 w2 hC2 hB2 hN2=>Aa<|A0<|W_drawn 8 z hmix fun w3 hB3=>have hC3:=hC2.grow hB3;tf 0 AR AP z z z z z<|tf 3 AR Bx z z z z z<|be hF fun x1 hr1 hF=>wAS (l':=[(0,(.agg #[(I a1.1.1),u1,u2])),(1,(ptr b1 0)),(2,(ptr b2 0)),(3,(ptr b1 0)),(6,(ptr b1 2))]) ⟨z,z,z,z,z,A6⟩<|Bg [⟨1,[],fun vs=>AQ (.agg #[(I a1.1.1),u1]),[]⟩,⟨2,[],fun vs=>BS x1,[]⟩,⟨4,[],fun vs=>AQ u2,[]⟩] [[],[1],[]] 3 z (by kernel_rfl) (by kernel_rfl) z ?_ ?_
 ·refine An z ?_ ?_
  ·intro w5 hB5
   refine At<|⟨_,z,?_⟩
   exact Az [(I a1.1.1),u1] (hC3.grow hB5) 1 z z z Bu AP z z<|Aa<|A1 (Aj _ _) z z ⟨z,z⟩
  refine An z ?_ ?_
  ·intro w5 hB5
   refine AG z z z ?_
   rintro _ _ ⟨rfl,rfl⟩ _
   refine At<|⟨_,z,?_⟩
   refine AA Tryz.call103 z z (c_M_copyAccess (a1.1.1,a1.1.2) u1 (g1.now (hC3.keep.then hB5)) x1 hr1) ?_
   rintro v1 w4 ⟨hB4,F1,hv1,hn1,hb1⟩
   exact Aa<|BZ hB4 z z hv1 hn1 hb1 (Val.inh hv1)
  refine An z ?_ ?_
  ·intro w5 hB5
   refine At<|⟨_,z,?_⟩
   exact Al (hC3.grow hB5) 1 z z B8 z z<|Aa<|A1 (Aj _ _) z z ⟨z,z⟩
  exact AX
 intro w6 hB6
 refine Ap z z z ?_
 rintro _ _ ⟨rfl,rfl⟩
 refine Ap z z z fun v1 F1 hv1=>Ap z z z<|?_
 rintro _ _ ⟨rfl,rfl⟩
 refine Bm ?_
 intro hn2 hb2
 have hC4:=hC3.pushL hB6 (Bs:=[Ad v1 x1]) (Fs:=[F1]) ⟨F1,_,z,hv1,z⟩ (by simpa using hn2) (fun b h=>(hb2 b (by simpa using h)).1)
 obtain ⟨v3,rfl,hC5⟩:=st82_own hC4
 refine be hF fun x2 hr2 hF=>oe 5 z<|AA Tryz.call104 z z (c_M_copyFacts a1.2 u2 (g2.now hC5.keep) x2 hr2)<|?_
 rintro v4 w7 ⟨hB7,F2,hv2,hn3,hb3⟩
 have hC6:=hC5.push hB7 (A:=Ad v4 x2) hv2 hn3 hb3
 refine Aa<|tk 6 z z (BR (vs:=[(0,(.agg #[(I x1.1),v3])),(1,v4)]) z z (built84_0_1 z (ro_cells (hC6.ro 0 z))))<|B4 (vs:=[(0,(.agg #[(I x1.1),v3])),(1,v4)]) z z z (built84_0_1 z (ro_cells (hC6.ro 0 z)))<|Aa<|oe 7 z<|AE (cs':=[(I x1.1),v3,v4]) (new:=[(I x1.1),v3,v4]) hC6 2 z z (fac z<|fac (Br (hC6.ro 1 z))<|fac (Br (hC6.ro 0 z))<|fa0) z B3 z z fun w9 hC7 hKp1=>?_
 try dsimp only [List.set] at hC7
 have hk1:=AV (((((Ao hB1).then hB2).then hB3).then hB6).then hB7) (Bl (Ao hB1).size hN2) hKp1
 have hk2:=AV ((((Ao hB2).then hB3).then hB6).then hB7) hN2 hKp1
 refine Aa<|dn<|Am<|AF<|?_
 obtain rfl:=Ab hF
 refine BY z (rv_cell_agg (cs':=[(I x1.1),v3,v4]) hC7 (i:=2) z z z BG B3 z)<|have hC10:=hC7.f1;?_
 have hC8:=BW x1.1 v3 x1.2 v4 x2 hC10
 exact ⟨_,z,CJ hC8 0 z⟩
theorem c_M_Without {w0:World} (a1:Tg) (u1:Value) (g1:RO [] w0 u1 a1) (a2:Ta) (u2:Value) (g2:RO [] w0 u2 a2) (rr:Tg) (hF:M.Without a1 a2=some rr) :
 Calls Tryz.prog 19 [u1,u2].toArray w0 fun e w'=>∃v,e=.returned v∧Res w0 rr v w':=by
 refine Av Tryz.func19 z z ?_
 have hC0:=A3 w0
 unfold M.Without at hF
 refine Ac<|Af z z<|Aa<|Ac<|Ar (vs:=[]) hC0 A8 ty84 z z z z (by simp) z z fun b1 w1 hC1 hB1=>?_
 have hC4:=hC1.rowE (α:=Td)
 refine Af z z<|Aa<|A0<|Ac<|Ae z z<|AH A8 g1 z z<|Ae z z<|Aa<|be hF fun r1 hr1 hF=>wN (fun l w=>∃v2:Value,∃x3:Tg,x3=r1∧l=[(5,v2)]∧Ctx [] w0 w [Ad v2 x3]) ?_ ?_
 ·refine A4<|wT<|Bj (fun k l w=>∃v1:Value,∃x1:Tg,∃x2:Int,l=[(1,u2),(5,v1),(9,u1),(10,(I (List.length a1:Int))),(11,(I x2))]∧Ctx [] w0 w [Ad v1 x1]∧M.Without_l1 a1 a2 k x1 x2=some r1) FUEL ⟨(.slice (some ⟨b1,0,none⟩) 0 0),([]:List Td),0,z,hC4,hr1⟩<|?_
  clear hr1
  rintro k1 _ w2 ⟨v1,x1,x2,rfl,hC5,hL1⟩
  obtain _|k1:=k1<;>rw [M.Without_l1] at hL1
  ·cases hL1
  refine Ac<|AZ z z z<|Aa<|A0<|wc hL1 z (fun hL1=>?_) fun hL1=>?_
  ·refine A5<|Am<|A0<|A4<|Ac<|Ae z z<|be hL1 fun x4 hx1 hL1=>A9 A8 ty84 g1 hx1 z z z fun b2 o1 h1=>AD ty84 h1 hC5.keep z z fun v3 h2=>?_
   obtain ⟨v4,v5,rfl,h3,h4⟩:=C2 h2
   refine Bq hC5 zero84 z z fun b3 w3 hC6 hB3 hN1=>Af z z<|AE (cs':=[(I x4.1.1),v4,v5]) (new:=[(I x4.1.1),v4,v5]) hC6 0 z z (fac z<|fac (Br h3)<|fac (Br h4)<|fa0) z B3 z z fun w4 hC7 hKp1=>?_
   try dsimp only [List.set] at hC7
   have hk1:=AV (Ao hB3) hN1 hKp1
   refine Aa<|Ac<|Ae z z<|Ae z z<|be hL1 fun x5 hr2 hL1=>cb Tryz.call57 z z (c_Slices_Contains_Lint_int a2 u2 (g2.now hC7.keep) x2 x5 hr2) fun w5 hB4=>have hC8:=hC7.grow hB4;Bv z z<|Aa<|be hL1 fun r2 hr3 hL1=>wB (fun l w=>∃v6:Value,∃x6:Tg,x6=r2∧l=[(1,u2),(5,v6),(9,u1),(10,(I (List.length a1:Int))),(11,(I x2))]∧Ctx [] w0 w [Ad v6 x6]) ?_ ?_
   ·refine wc hr3 z (fun hr3=>?_) fun hr3=>?_
    ·refine AL<|Ae z z<|Az [(I x4.1.1),v4,v5] hC8 0 z z z BG B3 z z<|be hr3 fun x7 hr4 hr3=>AA Tryz.call58 z z (c_M_copyTold ((x4.1.1,x4.1.2),x4.2) v4 (h3.now hC8.keep) v5 (h4.now hC8.keep) x7 hr4)<|?_
     rintro v7 w7 ⟨hB6,F1,hv2,hn1,hb1⟩
     have hC10:=hC8.push hB6 (A:=Ad v7 x7) hv2 hn1 hb1
     obtain ⟨v8,v9,rfl,hC11⟩:=st84_own hC10
     refine Ar (vs:=[(.agg #[(I x7.1.1),v8,v9])]) hC11 A8 ty84 z z z z (fac z<|fa0) z z (fun b4 w9 hC12 hB7=>?_)
     have hC13:=hC12.row0 (α:=Td)
     have hC16:=hC13.f3.f3
     have hC14:=BW x7.1.1 v8 x7.1.2 v9 x7.2 hC16
     have hC17:=hC14.row1
     have hC18:=hC17.front 1 z
     dsimp only [List.eraseIdx,List.cons_append,List.nil_append,List.append_nil] at hC18
     have hC19:Ctx [] w0 w9 (Ad (.slice (some ⟨b4,0,none⟩) 1 1) ([((x7.1.1,x7.1.2),x7.2)]:List Td)::[Ah b3 [(I x4.1.1),v4,v5],Ad v1 x1]):=hC18.rowOwn (by simp [maxLen])
     refine be hr3 fun x8 hx2 hr3=>Bf hC19 1 z A8 ty84 z hx2 z z z fun v10 w10 hC20=>?_
     try dsimp only [List.set] at hC20
     refine Af z z<|Aa<|?_
     have hC23:=hC20.f1.h1
     exact nS<|⟨v10,x8,Ab hr3,z,hC23⟩
    refine A5 ?_
    have hC25:=hC8.f1.h1
    exact nS<|⟨v1,x1,Ab hr3,z,hC25⟩
   rintro _ w6 ⟨v6,x6,rfl,rfl,hC9⟩
   exact AL<|AW z z z<|Ae z z<|Aa<|nS<|⟨k1,Aw _,v6,x6,w64 (x2+1),z,hC9,hL1⟩
  refine Bi (A2 (A2 (AM ?_)))
  exact nS<|⟨v1,x1,Ab hL1,z,hC5⟩
 rintro _ w11 ⟨v2,x3,rfl,rfl,hC26⟩
 exact Ac<|Ae z z<|Af z z<|Aa<|AF<|rO hF z z hC26 0 z
theorem c_M_removals_c1 {w0:World} (a1:Ta) (u1:Value) (g1:RO [] w0 u1 a1) (pb1:Nat) (ax1:Ta) (g2:ROAt [] w0 pb1 0 ax1) (pb2:Nat) (ax2:Tf) (g3:ROAt [] w0 pb2 0 ax2) (pb3:Nat) (ax3:Tg) (g4:ROAt [] w0 pb3 0 ax3) (rr:Bool) (hF:M.removals_c1 a1 ax1 ax2 ax3=some rr) :
 Calls Tryz.prog 85 [u1,(ptr pb1 0),(ptr pb2 0),(ptr pb3 0)].toArray w0 fun e w'=>∃v,e=.returned v∧Res w0 rr v w':=by
 refine Av Tryz.func85 z z ?_
 have hC0:=A3 w0
 unfold M.removals_c1 at hF
 refine Ac<|Af z z<|Aa<|A0<|W_drawn 7 z hmix fun w1 hB1=>have hC1:=hC0.grow hB1;tm 3 z z z<|be hF fun x1 hr1 hF=>wAS (l':=[(0,u1),(1,(ptr pb1 0)),(2,(ptr pb2 0)),(3,(ptr pb3 0)),(5,(.bool false)),(9,u1)]) ⟨z,z,z,z,z,z,A6⟩<|Bg [⟨0,[],fun vs=>Cj [] w0 ax1,[]⟩,⟨1,[],fun vs=>Cj [] w0 ax2,[]⟩,⟨2,[],fun vs=>Cj [] w0 ax3,[]⟩,⟨4,[],fun vs=>BS x1,[]⟩] [[],[],[],[2]] 2 z (by kernel_rfl) (by kernel_rfl) z ?_ ?_
 ·refine An z ?_ ?_
  ·intro w3 hB3
   refine At<|⟨_,z,?_⟩
   exact AD ty24 g2 (hC1.keep.then hB3) z z fun v1 h1=>Aa<|A1 (Aj _ _) z z ⟨z,h1⟩
  refine An z ?_ ?_
  ·intro w3 hB3
   refine At<|⟨_,z,?_⟩
   exact AD ty25 g3 (hC1.keep.then hB3) z z fun v2 h2=>Aa<|A1 (Aj _ _) z z ⟨z,h2⟩
  refine An z ?_ ?_
  ·intro w3 hB3
   refine At<|⟨_,z,?_⟩
   exact AD ty26 g4 (hC1.keep.then hB3) z z fun v3 h3=>Aa<|A1 (Aj _ _) z z ⟨z,h3⟩
  refine An z ?_ ?_
  ·intro w3 hB3
   refine AG z z z ?_
   rintro v3 _ ⟨rfl,h3⟩ _
   refine At<|⟨_,z,?_⟩
   refine AA CZ z z (c_M_Without ax3 v3 (h3.now (hC1.keep.then hB3)) a1 u1 (g1.now (hC1.keep.then hB3)) x1 hr1) ?_
   rintro v4 w2 ⟨hB2,F1,hv1,hn1,hb1⟩
   exact Aa<|BZ hB2 z z hv1 hn1 hb1 (Val.inh hv1)
  exact AX
 intro w4 hB4
 refine Ap z z z ?_
 rintro v1 _ ⟨rfl,h1⟩
 refine Ap z z z ?_
 rintro v2 _ ⟨rfl,h2⟩
 refine Ap z z z ?_
 rintro v3 _ ⟨rfl,h3⟩
 refine Ap z z z fun v4 F1 hv1=>Bm fun hn2 hb2=>?_
 have hC2:=hC1.pushL hB4 (Bs:=[Ad v4 x1]) (Fs:=[F1]) ⟨F1,_,z,hv1,z⟩ (by simpa using hn2) (fun b h=>(hb2 b (by simpa using h)).1)
 exact be hF fun x2 hr2 hF=>oe 5 z<|cb Tryz.call18 z z (c_M_IsConsistent ax1 v1 (h1.now hC2.keep) ax2 v2 (h2.now hC2.keep) x1 v4 ((hC2.ro 0 z).now (Ay _ _)) x2 hr2) fun w5 hB5=>have hC3:=hC2.grow hB5;Aa<|ta 6 z z z<|dn<|Am<|AF<|rB hF z z hC3
theorem c_Slices_Equal_Lint_int {w0:World} (a1:Ta) (u1:Value) (g1:RO [] w0 u1 a1) (a2:Ta) (u2:Value) (g2:RO [] w0 u2 a2) (rr:Bool) (hF:Slices.Equal_Lint_int a1 a2=some rr) :
 Calls Tryz.prog 186 [u1,u2].toArray w0 fun e w'=>∃v,e=.returned v∧Res w0 rr v w':=by
 refine Av Tryz.func186 z z ?_
 have hC0:=A3 w0
 unfold Slices.Equal_Lint_int at hF
 refine Ac<|Af z z<|Aa<|A0<|Ac<|Ae z z<|AH Ag g1 z z<|Ae z z<|AH Ag g2 z z<|BQ z z z<|Aa<|wc hF z (fun hF=>?_) fun hF=>?_
 ·exact Ac<|Af z z<|Aa<|AF<|Ax<|rB hF z z hC0
 refine A5<|Am<|A0<|Ac<|Ae z z<|AH Ag g1 z z<|Ae z z<|Aa<|be hF fun r1 hr1 hF=>wN (fun l w=>.inl ()=r1∧l=[]∧Below w0.heap.size w0 w∧Ctx [] w0 w []) ?_ ?_
 ·refine A4<|wT<|Bj (fun k l w=>∃x1:Int,l=[(0,u1),(1,u2),(12,(I (List.length a1:Int))),(13,(I x1))]∧Below w0.heap.size w0 w∧Ctx [] w0 w []∧Slices.Equal_Lint_int_l1 a1 a2 k x1=some r1) FUEL ⟨0,z,(Aj _ _),hC0,hr1⟩<|?_
  clear hr1
  rintro k1 _ w1 ⟨x1,rfl,hB1,hC1,hL1⟩
  obtain _|k1:=k1<;>rw [Slices.Equal_Lint_int_l1] at hL1
  ·cases hL1
  refine Ac<|AZ z z z<|Aa<|A0<|wc hL1 z (fun hL1=>?_) fun hL1=>?_
  ·refine A5<|Am<|A0<|A4<|Ac<|Ae z z<|Af z z<|Aa<|A0<|W_drawn 9 z hmix fun w2 hB2=>have hC2:=hC1.grow hB2;tm 0 z z z<|tm 1 z z z<|be hL1 fun x2 hx1 hL1=>tk 2 z z (B5 Ag ty3 g1 hx1 z z)<|A9 Ag ty3 g1 hx1 z z z fun b1 o1 h1=>Aa<|tm 4 z z z<|tm 5 z z z<|be hL1 fun x3 hx2 hL1=>tk 6 z z (B5 Ag ty3 g2 hx2 z z)<|A9 Ag ty3 g2 hx2 z z z fun b2 o2 h2=>Aa<|wAS (l':=[(0,u1),(1,u2),(5,(I x1)),(12,(I (List.length a1:Int))),(13,(I x1)),(14,(.bool (decide (x1 < (List.length a1:Int))))),(15,(I x1)),(16,u1),(17,(I x1)),(18,(ptr b1 o1)),(20,u2),(21,(I x1)),(22,(ptr b2 o2))]) ⟨z,z,z,z,z,z,z,z,z,z,z,z,z,A6⟩<|Bg [⟨3,[],fun vs=>AQ (I x2),[]⟩,⟨7,[],fun vs=>AQ (I x3),[]⟩] [[],[]] 1 z (by kernel_rfl) (by kernel_rfl) z ?_ ?_
   ·refine An z ?_ ?_
    ·intro w3 hB3
     refine At<|⟨_,z,?_⟩
     refine AD ty3 h1 (hC2.keep.then hB3) z z (fun v1 h3=>?_)
     obtain rfl:=Bo h3
     exact Aa<|A1 (Aj _ _) z z ⟨z,z⟩
    refine An z ?_ ?_
    ·intro w3 hB3
     refine At<|⟨_,z,?_⟩
     refine AD ty3 h2 (hC2.keep.then hB3) z z (fun v2 h4=>?_)
     obtain rfl:=Bo h4
     exact Aa<|A1 (Aj _ _) z z ⟨z,z⟩
    exact AX
   intro w4 hB4
   refine Ap z z z ?_
   rintro _ _ ⟨rfl,rfl⟩
   refine Ap z z z ?_
   rintro _ _ ⟨rfl,rfl⟩
   refine Bm fun hn1 hb1=>have hC3:=hC2.grow hB4;tk 8 z z (CM z z)<|BQ z z z<|Aa<|dn<|Am<|wc hL1 z (fun hL1=>?_) fun hL1=>?_
   ·refine Ac<|Af z z<|Aa<|AF<|AT<|Ax<|Ax<|AT<|Ax<|Ax<|?_
    obtain rfl:=Ab hL1
    dsimp only at hF
    exact rB hF z z hC3
   exact A5<|AN<|Am<|AL<|AW z z z<|Ae z z<|Aa<|nS<|⟨k1,Aw _,w64 (x1+1),z,(((Ao hB1).then hB2).then hB4).below,hC3,hL1⟩
  refine Bi (A2 (A2 (AM ?_)))
  exact nS<|⟨Ab hL1,z,(Ao hB1).below,hC1⟩
 rintro _ w5 ⟨rfl,rfl,hB5,hC4⟩
 try dsimp only at hF
 exact Ac<|Af z z<|Aa<|AF<|rB hF z z hC4
theorem c_M_hasTuple_c1 {w0:World} (a1:Ta) (u1:Value) (g1:RO [] w0 u1 a1) (pb1:Nat) (ax1:Ta) (g2:ROAt [] w0 pb1 0 ax1) (rr:Bool) (hF:M.hasTuple_c1 a1 ax1=some rr) :
 Calls Tryz.prog 185 [u1,(ptr pb1 0)].toArray w0 fun e w'=>∃v,e=.returned v∧Res w0 rr v w':=by
 refine Av Tryz.func185 z z ?_
 have hC0:=A3 w0
 unfold M.hasTuple_c1 at hF
 exact Ac<|Af z z<|Aa<|Ac<|Ae z z<|AD ty24 g2 hC0.keep z z fun v1 h1=>be hF fun x1 hr1 hF=>cb Tryz.call186 z z (c_Slices_Equal_Lint_int a1 u1 (g1.now hC0.keep) ax1 v1 (h1.now hC0.keep) x1 hr1) fun w1 hB1=>have hC1:=hC0.grow hB1;Af z z<|Aa<|AF<|rB hF z z hC1
theorem c_Slices_IndexFunc_LLint_Lint_M_hasTuple_c1 {w0:World} (a1:Tj) (u1:Value) (g1:RO [] w0 u1 a1) (pb1:Nat) (ax1:Ta) (g2:ROAt [] w0 pb1 0 ax1) (rr:Int) (hF:Slices.IndexFunc_LLint_Lint_M_hasTuple_c1 a1 ax1=some rr) :
 Calls Tryz.prog 140 [u1,(.func (.func 185) #[] #[(ptr pb1 0)])].toArray w0 fun e w'=>∃v,e=.returned v∧Res w0 rr v w':=by
 refine Av Tryz.func140 z z ?_
 have hC0:=A3 w0
 unfold Slices.IndexFunc_LLint_Lint_M_hasTuple_c1 at hF
 refine Ac<|Af z z<|Aa<|A0<|Ac<|Ae z z<|AH AC g1 z z<|Ae z z<|Aa<|be hF fun r1 hr1 hF=>wN (fun l w=>.inl ()=r1∧l=[]∧Below w0.heap.size w0 w∧Ctx [] w0 w []) ?_ ?_
 ·refine A4<|wT<|Bj (fun k l w=>∃x1:Int,l=[(0,u1),(1,(.func (.func 185) #[] #[(ptr pb1 0)])),(7,(I (List.length a1:Int))),(8,(I x1))]∧Below w0.heap.size w0 w∧Ctx [] w0 w []∧Slices.IndexFunc_LLint_Lint_M_hasTuple_c1_l1 a1 ax1 k x1=some r1) FUEL ⟨0,z,(Aj _ _),hC0,hr1⟩<|?_
  clear hr1
  rintro k1 _ w1 ⟨x1,rfl,hB1,hC1,hL1⟩
  obtain _|k1:=k1<;>rw [Slices.IndexFunc_LLint_Lint_M_hasTuple_c1_l1] at hL1
  ·cases hL1
  refine Ac<|AZ z z z<|Aa<|A0<|wc hL1 z (fun hL1=>?_) fun hL1=>?_
  ·refine A5<|Am<|A0<|A4<|Ac<|Ae z z<|Af z z<|Aa<|Ac<|Ae z z<|Ae z z<|Ae z z<|be hL1 fun x2 hx1 hL1=>A9 AC ty24 g1 hx1 z z z fun b1 o1 h1=>AD ty24 h1 hC1.keep z z fun v1 h2=>be hL1 fun x3 hr2 hL1=>BL (cap:=[(ptr pb1 0)]) Tryz.call185 z z z (c_M_hasTuple_c1 x2 v1 (h2.now hC1.keep) pb1 ax1 (g2.now hC1.keep) x3 hr2) fun _ w2 hv1=>?_
   obtain ⟨rfl,hB2⟩:=BM hv1
   have hC2:=hC1.grow hB2
   refine Aa<|wc hL1 z (fun hL1=>?_) fun hL1=>?_
   ·refine Ac<|Ae z z<|Af z z<|Aa<|AF<|AT<|Ax<|Ax<|AT<|Ax<|Ax<|?_
    obtain rfl:=Ab hL1
    dsimp only at hF
    exact rI hF z z hC2
   exact A5<|AN<|Am<|AL<|AW z z z<|Ae z z<|Aa<|nS<|⟨k1,Aw _,w64 (x1+1),z,((Ao hB1).then hB2).below,hC2,hL1⟩
  refine Bi (A2 (A2 (AM ?_)))
  exact nS<|⟨Ab hL1,z,(Ao hB1).below,hC1⟩
 rintro _ w3 ⟨rfl,rfl,hB3,hC3⟩
 try dsimp only at hF
 exact Ac<|Af z z<|Aa<|AF<|rI hF z z hC3
theorem c_Slices_ContainsFunc_LLint_Lint_M_hasTuple_c1 {w0:World} (a1:Tj) (u1:Value) (g1:RO [] w0 u1 a1) (pb1:Nat) (ax1:Ta) (g2:ROAt [] w0 pb1 0 ax1) (rr:Bool) (hF:Slices.ContainsFunc_LLint_Lint_M_hasTuple_c1 a1 ax1=some rr) :
 Calls Tryz.prog 91 [u1,(.func (.func 185) #[] #[(ptr pb1 0)])].toArray w0 fun e w'=>∃v,e=.returned v∧Res w0 rr v w':=by
 refine Av Tryz.func91 z z ?_
 have hC0:=A3 w0
 unfold Slices.ContainsFunc_LLint_Lint_M_hasTuple_c1 at hF
 exact Ac<|Af z z<|Aa<|Ac<|Ae z z<|Ae z z<|be hF fun x1 hr1 hF=>ci Tryz.call140 z z (c_Slices_IndexFunc_LLint_Lint_M_hasTuple_c1 a1 u1 (g1.now hC0.keep) pb1 ax1 (g2.now hC0.keep) x1 hr1) fun w1 hB1=>have hC1:=hC0.grow hB1;Cr z z z<|Af z z<|Aa<|AF<|rB hF z z hC1
theorem c_M_hasTuple {w0:World} (a1:Tj) (u1:Value) (g1:RO [] w0 u1 a1) (a2:Ta) (u2:Value) (g2:RO [] w0 u2 a2) (rr:Bool) (hF:M.hasTuple a1 a2=some rr) :
 Calls Tryz.prog 139 [u1,u2].toArray w0 fun e w'=>∃v,e=.returned v∧Res w0 rr v w':=by
 refine Av Tryz.func139 z z ?_
 have hC0:=A3 w0
 unfold M.hasTuple at hF
 exact Ac<|Be (cs:=[u2]) hC0 (ro_cells g2) z z fun b1 w1 hC1 hB1 hN1=>Af z z<|Aa<|Ac<|Ae z z<|BP z z<|be hF fun x1 hr1 hF=>cb Tryz.call91 z z (c_Slices_ContainsFunc_LLint_Lint_M_hasTuple_c1 a1 u1 (g1.now hC1.keep) b1 a2 (hC1.boxAt 0 z (repw_slice (g2.now hC1.keep))) x1 hr1) fun w2 hB2=>have hC2:=hC1.grow hB2;Af z z<|Aa<|AF<|rB hF z z hC2
theorem c_M_addedTuple_c1 {w0:World} (a1:Ta) (u1:Value) (g1:RO [] w0 u1 a1) (pb1:Nat) (ax1:Ta) (g2:ROAt [] w0 pb1 0 ax1) (rr:Bool) (hF:M.addedTuple_c1 a1 ax1=some rr) :
 Calls Tryz.prog 141 [u1,(ptr pb1 0)].toArray w0 fun e w'=>∃v,e=.returned v∧Res w0 rr v w':=by
 refine Av Tryz.func141 z z ?_
 have hC0:=A3 w0
 unfold M.addedTuple_c1 at hF
 exact Ac<|Af z z<|Aa<|Ac<|Ae z z<|AD ty24 g2 hC0.keep z z fun v1 h1=>be hF fun x1 hr1 hF=>ci Tryz.call138 z z (c_Slices_Compare_Lint_int a1 u1 (g1.now hC0.keep) ax1 v1 (h1.now hC0.keep) x1 hr1) fun w1 hB1=>have hC1:=hC0.grow hB1;Ck z z z<|Af z z<|Aa<|AF<|rB hF z z hC1
theorem c_Slices_Insert_LLint_Lint {Fs:List Tn} {w0:World} (a1:Tj) (u1:Value) (a2:Int) (a3:Tj) (u2:Value) (hH:Hold [Ad u1 (a1:Tj),Ad u2 (a3:Tj)] w0 Fs) (hn:Fs.flatten.Nodup) (rr:Tj) (hF:Slices.Insert_LLint_Lint a1 a2 a3=some rr) :
 Calls Tryz.prog 142 [u1,(I a2),u2].toArray w0 fun e w'=>∃v,e=.returned v∧∃q0:Value,v=q0∧Ctx Fs.flatten w0 w' [Ad q0 (rr:Tj)]:=by
 refine Av Tryz.func142 z z ?_
 have hC0:=B7 hH hn
 unfold Slices.Insert_LLint_Lint at hF
 obtain ⟨m,rfl,hm,hb1,hlim,rfl⟩:=ins_some hF
 have hsub:sub a1 (m:Int) (a1.length:Int)=some (a1.drop m):=by unfold sub; rw [if_pos (by omega)]; simp
 have hb1':(a3.length:Int)=1:=by omega
 have hlim':a1.length+1 ≤ 4294967296:=by rw [LIM_eq] at hlim; exact hlim
 have hw1:w64 ((a1.length:Int)+1)=((a1.length+1:Nat):Int):=by rw [w64_id (by omega) (by omega)]; omega
 have hw2:w64 (((a1.length+1:Nat):Int) - (m:Int))=((a1.length+1 - m:Nat):Int):=by rw [w64_id (by omega) (by omega)]; omega
 have hw3:w64 ((m:Int)+1)=((m+1:Nat):Int):=by rw [w64_id (by omega) (by omega)]; omega
 refine Ac<|Af z z<|Aa<|Ac<|Ae z z<|Ae z z<|WL_slice_l AC ty24 (hC0.ro 0 z) hsub z z z fun v1 h1=>Aa<|Ac<|Ae z z<|AH AC (hC0.ro 1 z) z z<|?_
 rw [hb1']
 refine Af z z<|Aa<|A0<|Ac<|Ae z z<|BD z z z<|Aa<|C5 z<|A5<|Am<|Ac<|Ae z z<|AH AC (hC0.ro 0 z) z z<|Af z z<|Aa<|A0<|Ac<|Ae z z<|Ae z z<|BD z z z<|?_
 by_cases hi:m=a1.length
 ·have e1:a1.take m ++ a3 ++ a1.drop m=a1 ++ a3:=by rw [List.take_of_length_le (by omega),List.drop_of_length_le (by omega),List.append_nil]
  rw [e1,decide_eq_true (show (m:Int)=(a1.length:Int) by omega)]
  refine Aa<|C4 z<|Ac<|Ae z z<|Ae z z<|?_
  have happ:app a1 a3=some (a1 ++ a3):=by unfold app; rw [if_pos (by omega)]
  exact Bf hC0.swap 0 z AC ty24 z happ z z z fun v2 w2 hC2=>Af z z<|Aa<|AF<|Ax<|BI z z<|⟨_,z,_,z,hC2⟩
 rw [decide_eq_false (show ¬ (m:Int)=(a1.length:Int) by omega)]
 refine Aa<|C5 z<|A5<|Am<|?_
 have hml:m < a1.length:=by omega
 obtain ⟨b,c,row,T,cells,Fe,vb,vc,vrow,vT,vcells,Ge,rfl,rfl,h4,g4,h5,g5,h6,g6,h8,g8,h10,h11,h12,h13,h14,h15,hK⟩:=hC0.ins_raw (by intro e; rw [e] at hml; simp at hml) (by intro e; rw [e] at hb1; simp at hb1)
 have hcl:=elems_len h5
 have hvl:=elems_len g5
 rw [hb1] at hvl
 have hyl:(cells.drop (m * Rep.sz Ta)).length=(a1.length - m) * Rep.sz Ta:=by rw [List.length_drop,hcl,Nat.sub_mul]
 have hvr:(vrow.toList.drop 0).take (1 * Rep.sz Ta)=vcells:=by rw [List.drop_zero,← g6,hb1]
 have hv1:=elems_one g5
 have hy1:∀ u ∈ cells.drop (m * Rep.sz Ta),u.oneCell'=true:=fun u hu=>elems_one h5 u (List.mem_of_mem_drop hu)
 refine A0<|Ac<|Ae z z<|Ae z z<|AW z z z<|?_
 rw [hw1]
 refine Ae z z<|WL_cap AC z z<|Ck z z z<|?_
 by_cases hr:c < a1.length+1
 ·rw [decide_eq_true (show (c:Int) < ((a1.length+1:Nat):Int) by omega)]
  refine Aa<|C4 z<|Ac<|Ae z z<|Ae z z<|WL_sl_h AC ty24 (show m ≤ c by omega) (by omega) z z z<|Ae z z<|Ae z z<|AW z z z<|?_
  rw [hw1]
  refine Ae z z<|Cb z z z<|?_
  rw [hw2]
  refine WL_zeros AC ty24 z Cu h4 (take_cells h6 hm) (by rw [List.length_take,hcl,Nat.min_eq_left (Nat.mul_le_mul_right _ hm)]) (show 0 < a1.length+1 - m by omega) (by omega) (by rw [LIM_eq]; omega) z z z (fun c' row' k1 k2 k3 k4=>?_)
  rw [show m+(a1.length+1 - m)=a1.length+1 by omega] at k3 ⊢
  obtain ⟨q1,q2,q3⟩:=row_grow (row':=row') hm hcl hvl k1 k2 k3
  obtain ⟨w1,hw1e⟩:∃w1,w1=w0.drew.alloc (.cells row' 24):=⟨_,z⟩
  have hA1:w1.heap[w0.heap.size]?=some (.cells row' 24 (0,0)):=by rw [hw1e]; exact heap_alloc_new w0.drew _
  have hB1:Below w0.heap.size w0 w1:=by rw [hw1e]; exact below_new w0 _
  rw [← hw1e]
  refine Af z z<|Aa<|Ac<|Ae z z<|Ae z z<|Cs AC ty24 (show m < c' by omega) (show m ≤ a1.length+1 by omega) k3 z z z<|Ae z z<|CQ (m:=1) AC ty24 hA1 ((hB1.block vb (heap_lt g4)).trans g4) (by show CR a3.length (a1.length+1 - m)=1; rw [hb1]; exact Nat.min_eq_left (by omega)) hvr hvl hv1 (by rw [hvl,k2,Nat.zero_add,← Nat.add_mul]; exact Nat.mul_le_mul_right _ (by omega)) z z z<|?_
  generalize hr1:(row'.toList.take (0+m * Rep.sz Ta) ++ vcells ++ row'.toList.drop (0+m * Rep.sz Ta+vcells.length)).toArray=r1 at q1 q2 q3 ⊢
  have hA2:(w1.setRow w0.heap.size r1).heap[w0.heap.size]?=some (.cells r1 24 (0,0)):=setRow_heap _ _ _ _ _ _ hA1
  have hB2:Below w0.heap.size w0 (w1.setRow w0.heap.size r1):=below_row hB1 (Da _)
  refine Aa<|A0<|W_drawn 9 z hmix fun w3 hB3=>tk 0 z z (Ca z)<|Ae z z<|Aa<|tk 1 z z (Ca z)<|Ae z z<|Aa<|tk 2 z z (Ca z)<|Ae z z<|Aa<|tk 3 z z (fl_add z z)<|AW z z z<|?_
  rw [hw3]
  refine Aa<|tk 4 z z (CS AC ty24 (show m+1 < c' by omega) (show m+1 ≤ a1.length+1 by omega) k3 z z)<|Cs AC ty24 (show m+1 < c' by omega) (show m+1 ≤ a1.length+1 by omega) k3 z z z<|Aa<|tk 5 z z (Ca z)<|Ae z z<|Aa<|tk 6 z z (Ca z)<|Ae z z<|Aa<|tk 7 z z (CS AC ty24 (show m < c by omega) hm h10 z z)<|Cs AC ty24 (show m < c by omega) hm h10 z z z<|Aa<|?_
  have hA3:w3.heap[w0.heap.size]?=some (.cells r1 24 (0,0)):=(hB3.block _ (heap_lt hA2)).trans hA2
  have hB30:Below w0.heap.size w0 w3:=hB2.trans ⟨hB3.os,hB3.tape,hB3.output,hB3.size,fun k hk=>hB3.block k (Nat.lt_of_lt_of_le hk hB2.size)⟩
  refine oe 8 z<|CQ (m:=a1.length - m) AC ty24 hA3 ((hB30.block b (heap_lt h4)).trans h4) (by show CR (a1.length - m) (a1.length+1 - (m+1))=a1.length - m; rw [show a1.length+1 - (m+1)=a1.length - m by omega]; exact Nat.min_self _) (drop_cells h6) hyl hy1 (by rw [hyl,q3,Nat.zero_add,← Nat.add_mul]; exact Nat.mul_le_mul_right _ (by omega)) z z z<|?_
  generalize hr2:(r1.toList.take (0+(m+1) * Rep.sz Ta) ++ cells.drop (m * Rep.sz Ta) ++ r1.toList.drop (0+(m+1) * Rep.sz Ta+(cells.drop (m * Rep.sz Ta)).length)).toArray=r2 at q1 q2 ⊢
  refine Aa<|dn<|Am<|Ac<|Ae z z<|Af z z<|Aa<|AF<|Ax<|BI z z<|?_
  have hB4:Below w0.heap.size w0 (w3.setRow w0.heap.size r2):=below_row hB30 (Da _)
  have hin:∀ k ∈ Fe ++ Ge,k < w0.heap.size:=fun k hk=>(List.mem_append.1 hk).elim (elems_inh h5 k) (elems_inh g5 k)
  obtain ⟨F',e1,e2,e3⟩:=ins_val (w':=w3.setRow w0.heap.size r2) h5 g5 h14 hm hb1 (g:=w0.heap.size) (fun h=>absurd (hin _ h) (Nat.lt_irrefl _)) (setRow_heap _ _ _ _ _ _ hA3) (fun k hk=>hB4.block k (hin k hk)) q1 q2 k3 k4
  exact ⟨_,z,_,z,hK _ _ _ F' ⟨hB4.os,hB4.tape,hB4.output,hB4.size,fun k hk _=>hB4.block k hk⟩ e1 e2 (fun k hk=>(e3 k hk).elim (fun h=>.inr (.inr (Nat.le_of_eq h.symm))) (fun h=>.inr (.inl h)))⟩
 rw [decide_eq_false (show ¬ (c:Int) < ((a1.length+1:Nat):Int) by omega)]
 refine Aa<|C5 z<|A5<|Am<|?_
 have k3:a1.length+1 ≤ c:=by omega
 obtain ⟨q1,q2,q3⟩:=row_shift hm hcl hvl h6 h8 k3
 refine Ac<|Ae z z<|Ae z z<|Ae z z<|AW z z z<|?_
 rw [hw1]
 refine WL_sl_h AC ty24 k3 (by omega) z z z<|Af z z<|Aa<|A0<|Ac<|Ae z z<|Ae z z<|Ae z z<|Ae z z<|AW z z z<|?_
 rw [hw3]
 refine Cs AC ty24 (show m+1 < c by omega) (show m+1 ≤ a1.length+1 by omega) k3 z z z<|WL_apart (R:=4) (run_callFunc_extern Tryz.func187 (by kernel_rfl) (by kernel_rfl) (by kernel_rfl) (by kernel_rfl)) AC ty24 h13 h4 g4 (by rw [h8]; exact Nat.ne_of_gt (Nat.mul_pos (by omega) (by decide))) z z z<|Bv z z<|Aa<|C4 z<|A0<|W_drawn 9 z hmix fun w3 hB3=>tk 0 z z (Ca z)<|Ae z z<|Aa<|tk 1 z z (Ca z)<|Ae z z<|Aa<|tk 2 z z (Ca z)<|Ae z z<|Aa<|tk 3 z z (fl_add z z)<|AW z z z<|?_
 rw [hw3]
 refine Aa<|tk 4 z z (CS AC ty24 (show m+1 < c by omega) (show m+1 ≤ a1.length+1 by omega) k3 z z)<|Cs AC ty24 (show m+1 < c by omega) (show m+1 ≤ a1.length+1 by omega) k3 z z z<|Aa<|tk 5 z z (Ca z)<|Ae z z<|Aa<|tk 6 z z (Ca z)<|Ae z z<|Aa<|tk 7 z z (CS AC ty24 (show m < c by omega) (show m ≤ a1.length+1 by omega) k3 z z)<|Cs AC ty24 (show m < c by omega) (show m ≤ a1.length+1 by omega) k3 z z z<|Aa<|?_
 have hA3:w3.heap[b]?=some (.cells row T (0,0)):=(hB3.block _ (heap_lt h4)).trans h4
 refine oe 8 z<|CQ (m:=a1.length - m) AC ty24 hA3 hA3 (by show CR (a1.length+1 - m) (a1.length+1 - (m+1))=a1.length - m; rw [show a1.length+1 - (m+1)=a1.length - m by omega]; exact Nat.min_eq_right (by omega)) (drop_cells h6) hyl hy1 (by rw [hyl,h8,Nat.zero_add,← Nat.add_mul]; exact Nat.mul_le_mul_right _ (by omega)) z z z<|?_
 generalize hr1:(row.toList.take (0+(m+1) * Rep.sz Ta) ++ cells.drop (m * Rep.sz Ta) ++ row.toList.drop (0+(m+1) * Rep.sz Ta+(cells.drop (m * Rep.sz Ta)).length)).toArray=r1 at q1 q2 q3 ⊢
 have hA4:(w3.setRow b r1).heap[b]?=some (.cells r1 T (0,0)):=setRow_heap _ _ _ _ _ _ hA3
 have g43:(w3.setRow b r1).heap[vb]?=some (.cells vrow vT (0,0)):=(setRow_other _ _ _ _ h13).trans ((hB3.block _ (heap_lt g4)).trans g4)
 refine Aa<|dn<|Am<|Ac<|Ae z z<|Ae z z<|Cs AC ty24 (show m < c by omega) (show m ≤ a1.length+1 by omega) k3 z z z<|Ae z z<|CQ (m:=1) AC ty24 hA4 g43 (by show CR a3.length (a1.length+1 - m)=1; rw [hb1]; exact Nat.min_eq_left (by omega)) hvr hvl hv1 (by rw [hvl,q3,Nat.zero_add,← Nat.add_mul]; exact Nat.mul_le_mul_right _ (by omega)) z z z<|?_
 generalize hr2:(r1.toList.take (0+m * Rep.sz Ta) ++ vcells ++ r1.toList.drop (0+m * Rep.sz Ta+vcells.length)).toArray=r2 at q1 q2 ⊢
 refine Aa<|Ac<|Ae z z<|Af z z<|Aa<|AF<|Ax<|BI z z<|?_
 have hK4:Keep [b] w0 ((w3.setRow b r1).setRow b r2):=Keep.row (Keep.row ⟨hB3.os,hB3.tape,hB3.output,hB3.size,fun k hk _=>hB3.block k hk⟩)
 have hin:∀ k ∈ Fe ++ Ge,k < w0.heap.size:=fun k hk=>(List.mem_append.1 hk).elim (elems_inh h5 k) (elems_inh g5 k)
 obtain ⟨F',e1,e2,e3⟩:=ins_val (w':=(w3.setRow b r1).setRow b r2) h5 g5 h14 hm hb1 (g:=b) h15 (setRow_heap _ _ _ _ _ _ hA4) (fun k hk=>hK4.block k (hin k hk) (by simp only [List.mem_singleton]; intro e; exact h15 (e ▸ hk))) q1 q2 k3 h11
 exact ⟨_,z,_,z,hK _ _ _ F' hK4 e1 e2 (fun k hk=>(e3 k hk).elim .inl (fun h=>.inr (.inl h)))⟩
theorem c_Slices_IndexFunc_LLint_Lint_M_addedTuple_c1 {w0:World} (a1:Tj) (u1:Value) (g1:RO [] w0 u1 a1) (pb1:Nat) (ax1:Ta) (g2:ROAt [] w0 pb1 0 ax1) (rr:Int) (hF:Slices.IndexFunc_LLint_Lint_M_addedTuple_c1 a1 ax1=some rr) :
 Calls Tryz.prog 140 [u1,(.func (.func 141) #[] #[(ptr pb1 0)])].toArray w0 fun e w'=>∃v,e=.returned v∧Res w0 rr v w':=by
 refine Av Tryz.func140 z z ?_
 have hC0:=A3 w0
 unfold Slices.IndexFunc_LLint_Lint_M_addedTuple_c1 at hF
 refine Ac<|Af z z<|Aa<|A0<|Ac<|Ae z z<|AH AC g1 z z<|Ae z z<|Aa<|be hF fun r1 hr1 hF=>wN (fun l w=>.inl ()=r1∧l=[]∧Below w0.heap.size w0 w∧Ctx [] w0 w []) ?_ ?_
 ·refine A4<|wT<|Bj (fun k l w=>∃x1:Int,l=[(0,u1),(1,(.func (.func 141) #[] #[(ptr pb1 0)])),(7,(I (List.length a1:Int))),(8,(I x1))]∧Below w0.heap.size w0 w∧Ctx [] w0 w []∧Slices.IndexFunc_LLint_Lint_M_addedTuple_c1_l1 a1 ax1 k x1=some r1) FUEL ⟨0,z,(Aj _ _),hC0,hr1⟩<|?_
  clear hr1
  rintro k1 _ w1 ⟨x1,rfl,hB1,hC1,hL1⟩
  obtain _|k1:=k1<;>rw [Slices.IndexFunc_LLint_Lint_M_addedTuple_c1_l1] at hL1
  ·cases hL1
  refine Ac<|AZ z z z<|Aa<|A0<|wc hL1 z (fun hL1=>?_) fun hL1=>?_
  ·refine A5<|Am<|A0<|A4<|Ac<|Ae z z<|Af z z<|Aa<|Ac<|Ae z z<|Ae z z<|Ae z z<|be hL1 fun x2 hx1 hL1=>A9 AC ty24 g1 hx1 z z z fun b1 o1 h1=>AD ty24 h1 hC1.keep z z fun v1 h2=>be hL1 fun x3 hr2 hL1=>BL (cap:=[(ptr pb1 0)]) Tryz.call141 z z z (c_M_addedTuple_c1 x2 v1 (h2.now hC1.keep) pb1 ax1 (g2.now hC1.keep) x3 hr2) fun _ w2 hv1=>?_
   obtain ⟨rfl,hB2⟩:=BM hv1
   have hC2:=hC1.grow hB2
   refine Aa<|wc hL1 z (fun hL1=>?_) fun hL1=>?_
   ·refine Ac<|Ae z z<|Af z z<|Aa<|AF<|AT<|Ax<|Ax<|AT<|Ax<|Ax<|?_
    obtain rfl:=Ab hL1
    dsimp only at hF
    exact rI hF z z hC2
   exact A5<|AN<|Am<|AL<|AW z z z<|Ae z z<|Aa<|nS<|⟨k1,Aw _,w64 (x1+1),z,((Ao hB1).then hB2).below,hC2,hL1⟩
  refine Bi (A2 (A2 (AM ?_)))
  exact nS<|⟨Ab hL1,z,(Ao hB1).below,hC1⟩
 rintro _ w3 ⟨rfl,rfl,hB3,hC3⟩
 try dsimp only at hF
 exact Ac<|Af z z<|Aa<|AF<|rI hF z z hC3
theorem c_M_addedTuple {w0:World} {Fs:List Tn} (a1:Tj) (u1:Value) (a2:Ta) (u2:Value) (g2:RO Fs.flatten w0 u2 a2) (hH:Hold [Ad u1 (a1:Tj)] w0 Fs) (hn:Fs.flatten.Nodup) (rr:Tj) (hF:M.addedTuple a1 a2=some rr) :
 Calls Tryz.prog 87 [u1,u2].toArray w0 fun e w'=>∃v,e=.returned v∧∃q0:Value,v=q0∧Ctx Fs.flatten w0 w' [Ad q0 (rr:Tj)]:=by
 refine Av Tryz.func87 z z ?_
 have hC0:=B7 hH hn
 unfold M.addedTuple at hF
 refine Ac<|Be (cs:=[u2]) hC0 (ro_cells g2) z z fun b1 w1 hC1 hB1 hN1=>Af z z<|Aa<|A0<|Ac<|Ae z z<|Al hC1 0 z z Au z z<|be hF fun x1 hr1 hF=>cb Tryz.call139 z z (c_M_hasTuple a1 u1 ((hC1.ro 1 z).now (Ay _ _)) a2 u2 (g2.now hC1.keep) x1 hr1) fun w2 hB2=>have hC2:=hC1.grow hB2;Aa<|wc hF z (fun hF=>?_) fun hF=>?_
 ·refine Ac<|Ae z z<|Af z z<|Aa<|AF<|Ax<|?_
  obtain rfl:=Ab hF
  exact BI z z<|have hC3:=hC2.f1;have hC4:=hC3.h1;⟨_,z,_,z,hC4⟩
 refine A5<|Am<|Ac<|Ae z z<|BP z z<|be hF fun x2 hr2 hF=>ci Tryz.call140 z z (c_Slices_IndexFunc_LLint_Lint_M_addedTuple_c1 a1 u1 ((hC2.ro 1 z).now (Ay _ _)) b1 a2 (hC2.boxAt 0 z (repw_slice (g2.now hC2.keep))) x2 hr2) fun w3 hB3=>have hC5:=hC2.grow hB3;Af z z<|Aa<|A0<|Ac<|Ae z z<|AZ z z z<|Aa<|be hF fun r1 hr3 hF=>wN (fun l w=>∃x3:Int,x3=r1∧l=[(0,u1),(3,(ptr b1 0)),(5,(I x3))]∧Below w3.heap.size w3 w∧Ctx Fs.flatten w0 w [Ah b1 [u2],Ad u1 (a1:Tj)]) ?_ ?_
 ·refine wc hr3 z (fun hr3=>?_) fun hr3=>?_
  ·exact AL<|Ae z z<|AH AC (hC5.ro 1 z) z z<|Af z z<|Aa<|nS<|⟨(List.length a1:Int),Ab hr3,z,(Aj _ _),hC5⟩
  exact A5<|nS<|⟨x2,Ab hr3,z,(Aj _ _),hC5⟩
 rintro _ w4 ⟨x3,rfl,rfl,hB4,hC6⟩
 refine Ac<|Ae z z<|Ae z z<|Al hC6 0 z z Au z z<|be hF fun x4 hr4 hF=>AA CE z z (c_Slices_Clone_Lint_int a2 u2 (g2.now hC6.keep) x4 hr4)<|?_
 rintro v1 w5 ⟨hB5,F1,hv3,hn1,hb1⟩
 have hC7:=hC6.push hB5 (A:=Ad v1 x4) hv3 hn1 hb1
 refine Ar (vs:=[v1]) hC7 AC ty24 z z z z (by intro v hv; simp only [List.mem_cons,List.not_mem_nil,or_false] at hv; rcases hv with rfl; exact (by rw [ro_cells (hC7.ro 0 z)]; rfl)) (by simp only [List.flatMap_cons,List.flatMap_nil,ro_cells (hC7.ro 0 z)]; rfl) z (fun b2 w6 hC8 hB6=>?_)
 have hC9:=hC8.row0 (α:=Ta)
 have hC10:=hC9.f2
 have hz1:=ro_cells (hC10.ro 0 z)
 have hC11:=hC10.row1
 rw [hz1] at hC11
 have hC12:=hC11.front 1 z
 dsimp only [List.eraseIdx,List.cons_append,List.nil_append,List.append_nil] at hC12
 have hC13:Ctx Fs.flatten w0 w6 (Ad (.slice (some ⟨b2,0,none⟩) 1 1) ([x4]:List Ta)::[Ah b1 [u2],Ad u1 (a1:Tj)]):=hC12.rowOwn (by simp [maxLen])
 refine be hF fun x5 hr5 hF=>have hC15:=hC13.f2;?_
 obtain ⟨Fs1,hH1,hn2,hF1,hO1,hb2⟩:=Dh (As:=[Ah b1 [u2]]) [Ad u1 (a1:Tj),Ad (.slice (some ⟨b2,0,none⟩) 1 1) ([x4]:Tj)] hC15
 refine AA Tryz.call142 z z (c_Slices_Insert_LLint_Lint a1 u1 x3 ([x4]) (.slice (some ⟨b2,0,none⟩) 1 1) hH1 hn2 x5 hr5) ?_
 rintro v2 w7 ⟨_,rfl,hq4⟩
 have hC16:Ctx Fs.flatten w0 w7 [Ad v2 x5,Ah b1 [u2]]:=hb2 _ _ hq4
 refine Af z z<|Aa<|AF<|?_
 obtain rfl:=Ab hF
 exact BI z z<|have hC18:=hC16.h1;⟨_,z,_,z,hC18⟩
theorem c_M_smallest_M_removals_c1 {w0:World} (a1:Int) (pb1:Nat) (ax1:Ta) (g1:ROAt [] w0 pb1 0 ax1) (pb2:Nat) (ax2:Tf) (g2:ROAt [] w0 pb2 0 ax2) (pb3:Nat) (ax3:Tg) (g3:ROAt [] w0 pb3 0 ax3) (rr:(Ta × Bool)) (hF:M.smallest_M_removals_c1 a1 ax1 ax2 ax3=some rr) :
 Calls Tryz.prog 86 [(I a1),(.func (.func 85) #[] #[(ptr pb1 0),(ptr pb2 0),(ptr pb3 0)])].toArray w0 fun e w'=>∃v,e=.returned v∧Res2 w0 rr.1 rr.2 v w':=by
 refine Av Tryz.func86 z z ?_
 have hC0:=A3 w0
 unfold M.smallest_M_removals_c1 at hF
 refine Ac<|Af z z<|Af z z<|Aa<|Ac<|Af z z<|Aa<|A0<|Ac<|Ae z z<|be hF fun _ hx1 hF=>WL_shl (nn_some hx1) z z z<|Ae z z<|Aa<|be hF fun r1 hr1 hF=>wN (fun l w=>∃v2:Value,∃x4:Ta,∃x5:Bool,(x4,x5)=r1∧l=[(6,v2)]∧Ctx [] w0 w [Ad v2 x4]∧NilB v2 x5) ?_ ?_
 ·refine A4 ?_
  have hC28:=hC0.triv (nil_val (α:=Int))
  refine wT<|Bj (fun k l w=>∃v1:Value,∃x1:Ta,∃x2:Bool,∃x3:Int,l=[(0,(I a1)),(1,(.func (.func 85) #[] #[(ptr pb1 0),(ptr pb2 0),(ptr pb3 0)])),(6,v1),(11,(I (shl 1 a1))),(12,(I x3))]∧Ctx [] w0 w [Ad v1 x1]∧NilB v1 x2∧M.smallest_M_removals_c1_l1 a1 ax1 ax2 ax3 k x1 x2 x3=some r1) FUEL ⟨(.slice none 0 0),[],true,0,z,hC28,nilB_nil,hr1⟩<|?_
  clear hr1
  rintro k1 _ w1 ⟨v1,x1,x2,x3,rfl,hC1,hnb1,hL1⟩
  obtain _|k1:=k1<;>rw [M.smallest_M_removals_c1_l1] at hL1
  ·cases hL1
  refine Ac<|AZ z z z<|Aa<|A0<|wc hL1 z (fun hL1=>?_) fun hL1=>?_
  ·refine A5<|Am<|A0<|A4<|Ac<|Ae z z<|Af z z<|Aa<|Ac<|Ar (vs:=[]) hC1 Ag ty3 z z z z (by simp) z z fun b1 w2 hC2 hB2=>?_
   have hC5:=hC2.rowE (α:=Int)
   refine Af z z<|Aa<|A0<|Ac<|Ae z z<|Ae z z<|Aa<|be hL1 fun r2 hr2 hL1=>wN (fun l w=>∃v4:Value,∃x9:Ta,∃x10:Bool,(x9,x10)=r2∧l=[(0,(I a1)),(1,(.func (.func 85) #[] #[(ptr pb1 0),(ptr pb2 0),(ptr pb3 0)])),(6,v1),(8,v4),(11,(I (shl 1 a1))),(12,(I x3))]∧Ctx [] w0 w [Ad v4 x9,Ad v1 x1]∧NilB v4 x10) ?_ ?_
   ·refine A4<|wT<|Bj (fun k l w=>∃v3:Value,∃x6:Ta,∃x7:Bool,∃x8:Int,l=[(0,(I a1)),(1,(.func (.func 85) #[] #[(ptr pb1 0),(ptr pb2 0),(ptr pb3 0)])),(6,v1),(7,(I x3)),(8,v3),(11,(I (shl 1 a1))),(12,(I x3)),(16,(I a1)),(17,(I x8))]∧Ctx [] w0 w [Ad v3 x6,Ad v1 x1]∧NilB v3 x7∧M.smallest_M_removals_c1_l2 a1 x3 k x6 x7 x8=some r2) FUEL ⟨(.slice (some ⟨b1,0,none⟩) 0 0),([]:List Int),false,0,z,hC5,nilB_some,hr2⟩<|?_
    clear hr2
    rintro k2 _ w3 ⟨v3,x6,x7,x8,rfl,hC6,hnb3,hL2⟩
    obtain _|k2:=k2<;>rw [M.smallest_M_removals_c1_l2] at hL2
    ·cases hL2
    refine Ac<|AZ z z z<|Aa<|A0<|wc hL2 z (fun hL2=>?_) fun hL2=>?_
    ·refine A5<|Am<|A0<|A4<|Ac<|Ae z z<|Af z z<|Aa<|Ac<|Ae z z<|Ae z z<|be hL2 fun _ hx2 hL2=>WL_shr (nn_some hx2) z z z<|Dj z z z<|BD z z z<|Aa<|be hL2 fun r3 hr3 hL2=>wB (fun l w=>∃v5:Value,∃x11:Ta,∃x12:Bool,(x11,x12)=r3∧l=[(0,(I a1)),(1,(.func (.func 85) #[] #[(ptr pb1 0),(ptr pb2 0),(ptr pb3 0)])),(6,v1),(7,(I x3)),(8,v5),(11,(I (shl 1 a1))),(12,(I x3)),(16,(I a1)),(17,(I x8))]∧Ctx [] w0 w [Ad v5 x11,Ad v1 x1]∧NilB v5 x12) ?_ ?_
     ·refine wc hr3 z (fun hr3=>?_) fun hr3=>?_
      ·refine AL<|Ae z z<|Ae z z<|Ar (vs:=[(I x8)]) hC6 Ag ty3 z z z z (fac z<|fa0) z z fun b2 w5 hC8 hB5=>?_
       have hC13:=hC8.row1i
       refine be hr3 fun x13 hx3 hr3=>AS (α:=Int) hC13 1 z (hC13.ro 0 z) (Ay _ _) Ag ty3 z hx3 z z z fun v6 w6 hC14=>?_
       try dsimp only [List.set] at hC14
       refine Af z z<|Aa<|?_
       have hC17:=hC14.f2.f2.h2
       exact nS<|⟨v6,x13,false,Ab hr3,z,hC17,(nilB_own hC14 1 z (app_ne hx3))⟩
      exact A5<|nS<|⟨v3,x6,x7,Ab hr3,z,hC6,hnb3⟩
     rintro _ w4 ⟨v5,x11,x12,rfl,rfl,hC7,hnb5⟩
     try dsimp only at hL2
     exact AL<|AW z z z<|Ae z z<|Aa<|nS<|⟨k2,Aw _,v5,x11,x12,w64 (x8+1),z,hC7,hnb5,hL2⟩
    refine Bi (A2 (A2 (AM ?_)))
    exact nS<|⟨v3,x6,x7,Ab hL2,z,hC6,hnb3⟩
   rintro _ w7 ⟨v4,x9,x10,rfl,rfl,hC18,hnb4⟩
   try dsimp only at hL1
   refine be hL1 fun r4 hr4 hL1=>B9 (fun l w=>∃x14:Bool,x14=r4∧l=[(0,(I a1)),(1,(.func (.func 85) #[] #[(ptr pb1 0),(ptr pb2 0),(ptr pb3 0)])),(6,v1),(8,v4),(11,(I (shl 1 a1))),(12,(I x3)),(56,(.bool x14))]∧Below w7.heap.size w7 w∧Ctx [] w0 w [Ad v4 x9,Ad v1 x1]) ?_ ?_
   ·refine AL<|Ae z z<|WL_nil_eql Ag hnb1 z z<|Ae z z<|wk hr4 (fun hr4=>?_) fun hr4=>?_
    ·refine gs z z z z<|gs z z z z<|gs z z z z<|gs z z z z<|gs z z z z<|AJ z z z<|Ae z z<|gs z z z z<|gs z z z z<|gs z z z z<|gs z z z z<|gs z z z z<|gs z z z z<|gs z z z z<|gs z z z z<|gs z z z z<|gs z z z z<|gs z z z z<|AJ z z z<|Ae z z<|Ai z z<|Ae z z<|Ai z z<|Ae z z<|be hr4 fun x15 hr5 hr4=>Ai z z<|BL (cap:=[(ptr pb1 0),(ptr pb2 0),(ptr pb3 0)]) Db z z z (c_M_removals_c1 x9 v4 ((hC18.ro 0 z).now (Ay _ _)) pb1 ax1 (g1.now hC18.keep) pb2 ax2 (g2.now hC18.keep) pb3 ax3 (g3.now hC18.keep) x15 hr5) fun _ w10 hv1=>?_
     obtain ⟨rfl,hB8⟩:=BM hv1
     have hC20:=hC18.grow hB8
     exact AJ z z z<|Aa<|nS<|⟨x15,Ab hr4,z,(Ao hB8).below,hC20⟩
    refine Ai z z<|Ae z z<|Ai z z<|AH Ag (hC18.ro 0 z) z z<|Ai z z<|Ae z z<|Ai z z<|AH Ag (hC18.ro 1 z) z z<|Ai z z<|AZ z z z<|AK z z z<|Ae z z<|wk hr4 (fun hr4=>?_) fun hr4=>?_
    ·refine gs z z z z<|gs z z z z<|gs z z z z<|gs z z z z<|gs z z z z<|gs z z z z<|gs z z z z<|gs z z z z<|gs z z z z<|gs z z z z<|gs z z z z<|AJ z z z<|Ae z z<|Ai z z<|Ae z z<|Ai z z<|Ae z z<|be hr4 fun x16 hr6 hr4=>Ai z z<|BL (cap:=[(ptr pb1 0),(ptr pb2 0),(ptr pb3 0)]) Db z z z (c_M_removals_c1 x9 v4 ((hC18.ro 0 z).now (Ay _ _)) pb1 ax1 (g1.now hC18.keep) pb2 ax2 (g2.now hC18.keep) pb3 ax3 (g3.now hC18.keep) x16 hr6) fun _ w11 hv2=>?_
     obtain ⟨rfl,hB9⟩:=BM hv2
     have hC21:=hC18.grow hB9
     exact AJ z z z<|Aa<|nS<|⟨x16,Ab hr4,z,(Ao hB9).below,hC21⟩
    refine Ai z z<|Ae z z<|Ai z z<|AH Ag (hC18.ro 0 z) z z<|Ai z z<|Ae z z<|Ai z z<|AH Ag (hC18.ro 1 z) z z<|Ai z z<|BD z z z<|Ai z z<|Ae z z<|wk hr4 (fun hr4=>?_) fun hr4=>?_
    ·refine Ai z z<|Ae z z<|Ai z z<|Ae z z<|be hr4 fun x17 hr7 hr4=>Ai z z<|ci Tryz.call138 z z (c_Slices_Compare_Lint_int x9 v4 ((hC18.ro 0 z).now (Ay _ _)) x1 v1 ((hC18.ro 1 z).now (Ay _ _)) x17 hr7) fun w12 hB10=>have hC22:=hC18.grow hB10;Ai z z<|AZ z z z<|Ai z z<|AJ z z z<|AK z z z<|Ae z z<|wk hr4 (fun hr4=>?_) fun hr4=>?_
     ·refine Ai z z<|Ae z z<|Ai z z<|Ae z z<|be hr4 fun x18 hr8 hr4=>Ai z z<|BL (cap:=[(ptr pb1 0),(ptr pb2 0),(ptr pb3 0)]) Db z z z (c_M_removals_c1 x9 v4 ((hC22.ro 0 z).now (Ay _ _)) pb1 ax1 (g1.now hC22.keep) pb2 ax2 (g2.now hC22.keep) pb3 ax3 (g3.now hC22.keep) x18 hr8) fun _ w13 hv4=>?_
      obtain ⟨rfl,hB11⟩:=BM hv4
      have hC23:=hC22.grow hB11
      exact AJ z z z<|Aa<|nS<|⟨x18,Ab hr4,z,((Ao hB10).then hB11).below,hC23⟩
     exact gs z z z z<|gs z z z z<|gs z z z z<|AK z z z<|Aa<|nS<|⟨false,Ab hr4,z,(Ao hB10).below,hC22⟩
    exact gs z z z z<|gs z z z z<|gs z z z z<|gs z z z z<|Ai z z<|AK z z z<|AK z z z<|Ae z z<|gs z z z z<|gs z z z z<|gs z z z z<|AK z z z<|Aa<|nS<|⟨false,Ab hr4,z,(Aj _ _),hC18⟩
   rintro _ w9 ⟨x14,rfl,rfl,hB7,hC19⟩
   refine be hL1 fun r5 hr9 hL1=>wB (fun l w=>∃v7:Value,∃x19:Ta,∃x20:Bool,(x19,x20)=r5∧l=[(0,(I a1)),(1,(.func (.func 85) #[] #[(ptr pb1 0),(ptr pb2 0),(ptr pb3 0)])),(6,v7),(11,(I (shl 1 a1))),(12,(I x3))]∧Below w9.heap.size w9 w∧Ctx [] w0 w [Ad v7 x19]∧NilB v7 x20) ?_ ?_
   ·refine wc hr9 z (fun hr9=>?_) fun hr9=>?_
    ·refine AL<|Ae z z<|Af z z<|Aa<|?_
     have hC25:=hC19.h1
     exact nS<|⟨v4,x9,x10,Ab hr9,z,(Aj _ _),hC25,hnb4⟩
    refine A5 ?_
    have hC27:=hC19.f1.h1
    exact nS<|⟨v1,x1,x2,Ab hr9,z,(Aj _ _),hC27,hnb1⟩
   rintro _ w14 ⟨v7,x19,x20,rfl,rfl,hB12,hC24,hnb6⟩
   try dsimp only at hL1
   exact AL<|AW z z z<|Ae z z<|Aa<|nS<|⟨k1,Aw _,v7,x19,x20,w64 (x3+1),z,hC24,hnb6,hL1⟩
  refine Bi (A2 (A2 (AM ?_)))
  exact nS<|⟨v1,x1,x2,Ab hL1,z,hC1,hnb1⟩
 rintro _ w15 ⟨v2,x4,x5,rfl,rfl,hC29,hnb2⟩
 try dsimp only at hF
 refine Ac<|Ae z z<|Ae z z<|WL_nil_neq Ag hnb2 z z<|Af z z<|Af z z<|Aa<|AF<|?_
 obtain rfl:=Ab hF
 refine CT z z z ?_
 have hC30:=hC29.triv (BN ((!x5)))
 have hC31:=hC30.f1
 exact ⟨_,z,res2_of hC31⟩
end Go.Gx.Px
