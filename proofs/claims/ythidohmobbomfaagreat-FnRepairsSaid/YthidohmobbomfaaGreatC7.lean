/- The contracts of the Go functions against the pure functions, printed by program. Conditions: each says them. -/
import Derived.Test.YthidohmobbomfaaGreatC6
import Derived.Test.YthidohmobbomfaaGreatGxDg
set_option linter.unusedVariables false
set_option linter.unusedSimpArgs false
set_option maxRecDepth 100000
set_option maxHeartbeats 4000000
namespace Go.Gx.Px
open Go.Proofs Go.RowKit
open K9
theorem c_M_hasHead {w0:World} (a1:Tl) (u1:Value) (g1:RO [] w0 u1 a1.1) (u2:Value) (g2:RO [] w0 u2 a1.2) (rr:Bool) (hF:M.hasHead a1=some rr) :
 Calls Tryz.prog 123 [(.agg #[u1,u2])].toArray w0 fun e w'=>∃v,e=.returned v∧Res w0 rr v w':=by
 refine Av Tryz.func123 z z ?_
 have hC0:=A3 w0
 unfold M.hasHead at hF
 refine Ac<|Be (cs:=[u1,u2]) hC0 z z z fun b1 w1 hC1 hB1 hN1=>Af z z<|Aa<|Ac<|Az [u1,u2] hC1 0 z z z BA B0 z z<|be hF fun x1 hr1 hF=>AA Tryz.call175 z z (c_M_VarsOf (a1.1,a1.2) u1 (g1.now hC1.keep) u2 (g2.now hC1.keep) x1 hr1)<|?_
 rintro v1 w2 ⟨hB2,F1,hv1,hn1,hb1⟩
 have hC2:=hC1.push hB2 (A:=Ad v1 x1) hv1 hn1 hb1
 refine Bq hC2 zero24 z z fun b2 w3 hC3 hB3 hN2=>B2 (cs':=[v1]) hC3 0 z z (Br (hC3.ro 1 z)) z Aq z z fun w4 hC4 hKp1=>?_
 try dsimp only [List.set] at hC4
 have hk1:=AV (((Ao hB1).then hB2).then hB3) (Bl ((Ao hB1).then hB2).size hN2) hKp1
 have hk2:=AV ((Ao hB2).then hB3) (Bl (Ao hB2).size hN2) hKp1
 have hk3:=AV (Ao hB3) hN2 hKp1
 refine Aa<|be hF fun r1 hr2 hF=>B9 (fun l w=>∃x2:Bool,x2=r1∧l=[(2,(.bool x2))]∧Below w4.heap.size w4 w∧Ctx [] w0 w []) ?_ ?_
 ·refine AL<|fd Bn Aq z z z z<|Al hC4 2 z z Au z z<|AH Ag g1 z z<|Cv z z z<|Ae z z<|wk hr2 (fun hr2=>?_) fun hr2=>?_
  ·refine Ai z z<|fd Bn Aq z z z z<|Ai z z<|Al hC4 2 z z Au z z<|Ai z z<|BP z z<|be hr2 fun x3 hr3 hr2=>Ai z z<|cb CD z z (c_Slices_ContainsFunc_Lint_int_M_hasHead_c1 a1.1 u1 (g1.now hC4.keep) b2 x1 (hC4.boxAt 0 z (repw_slice (hC4.ro 1 z))) x3 hr3) fun w6 hB5=>have hC6:=hC4.grow hB5;Ai z z<|Bv z z<|AJ z z z<|Af z z<|Aa<|?_
   have hC7:=hC6.h0
   exact nS<|⟨(!x3),Ab hr2,z,(Ao hB5).below,hC7⟩
  refine gs z z z z<|gs z z z z<|gs z z z z<|gs z z z z<|gs z z z z<|AK z z z<|Af z z<|Aa<|?_
  have hC8:=hC4.h0
  exact nS<|⟨false,Ab hr2,z,(Aj _ _),hC8⟩
 rintro _ w5 ⟨x2,rfl,rfl,hB4,hC5⟩
 exact AF<|rB hF z z hC5
theorem c_Slices_IndexFunc_Limpl_Atom_impl_Atom_M_IsQuery_c1 {w0:World} (a1:Tc) (u1:Value) (g1:RO [] w0 u1 a1) (pb1:Nat) (ax1:Ta) (g2:ROAt [] w0 pb1 0 ax1) (rr:Int) (hF:Slices.IndexFunc_Limpl_Atom_impl_Atom_M_IsQuery_c1 a1 ax1=some rr) :
 Calls Tryz.prog 173 [u1,(.func (.func 121) #[] #[(ptr pb1 0)])].toArray w0 fun e w'=>∃v,e=.returned v∧Res w0 rr v w':=by
 refine Av Tryz.func173 z z ?_
 have hC0:=A3 w0
 unfold Slices.IndexFunc_Limpl_Atom_impl_Atom_M_IsQuery_c1 at hF
 refine Ac<|Af z z<|Aa<|A0<|Ac<|Ae z z<|AH By g1 z z<|Ae z z<|Aa<|be hF fun r1 hr1 hF=>wN (fun l w=>.inl ()=r1∧l=[]∧Below w0.heap.size w0 w∧Ctx [] w0 w []) ?_ ?_
 ·refine A4<|wT<|Bj (fun k l w=>∃x1:Int,l=[(0,u1),(1,(.func (.func 121) #[] #[(ptr pb1 0)])),(7,(I (List.length a1:Int))),(8,(I x1))]∧Below w0.heap.size w0 w∧Ctx [] w0 w []∧Slices.IndexFunc_Limpl_Atom_impl_Atom_M_IsQuery_c1_l1 a1 ax1 k x1=some r1) FUEL ⟨0,z,(Aj _ _),hC0,hr1⟩<|?_
  clear hr1
  rintro k1 _ w1 ⟨x1,rfl,hB1,hC1,hL1⟩
  obtain _|k1:=k1<;>rw [Slices.IndexFunc_Limpl_Atom_impl_Atom_M_IsQuery_c1_l1] at hL1
  ·cases hL1
  refine Ac<|AZ z z z<|Aa<|A0<|wc hL1 z (fun hL1=>?_) fun hL1=>?_
  ·refine A5<|Am<|A0<|A4<|Ac<|Ae z z<|Af z z<|Aa<|Ac<|Ae z z<|Ae z z<|Ae z z<|be hL1 fun x2 hx1 hL1=>A9 By ty93 g1 hx1 z z z fun b1 o1 h1=>AD ty93 h1 hC1.keep z z fun v1 h2=>?_
   obtain ⟨v2,rfl,h3⟩:=ro_st93 h2
   refine be hL1 fun x3 hr2 hL1=>BL (cap:=[(ptr pb1 0)]) Tryz.call121 z z z (c_M_IsQuery_c1 x2 v2 (h3.now hC1.keep) pb1 ax1 (g2.now hC1.keep) x3 hr2) fun _ w2 hv1=>?_
   obtain ⟨rfl,hB2⟩:=BM hv1
   have hC2:=hC1.grow hB2
   refine Aa<|wc hL1 z (fun hL1=>?_) fun hL1=>?_
   ·refine Ac<|Ae z z<|Af z z<|Aa<|AF<|AT<|Ax<|Ax<|AT<|Ax<|Ax<|?_
    obtain rfl:=Ab hL1
    dsimp only at hF
    exact rI hF z z hC2
   exact A5<|AN<|Am<|AL<|AW z z z<|Ae z z<|Aa<|nS<|⟨k1,Aw _,w64 (x1+1),z,((Ao hB1).then hB2).below,hC2,hL1⟩
  refine Bi (A2 (A2 (AM ?_)))
  exact nS<|⟨Ab hL1,z,(Ao hB1).below,hC1⟩
 rintro _ w3 ⟨rfl,rfl,hB3,hC3⟩
 try dsimp only at hF
 exact Ac<|Af z z<|Aa<|AF<|rI hF z z hC3
theorem c_Slices_ContainsFunc_Limpl_Atom_impl_Atom_M_IsQuery_c1 {w0:World} (a1:Tc) (u1:Value) (g1:RO [] w0 u1 a1) (pb1:Nat) (ax1:Ta) (g2:ROAt [] w0 pb1 0 ax1) (rr:Bool) (hF:Slices.ContainsFunc_Limpl_Atom_impl_Atom_M_IsQuery_c1 a1 ax1=some rr) :
 Calls Tryz.prog 120 [u1,(.func (.func 121) #[] #[(ptr pb1 0)])].toArray w0 fun e w'=>∃v,e=.returned v∧Res w0 rr v w':=by
 refine Av Tryz.func120 z z ?_
 have hC0:=A3 w0
 unfold Slices.ContainsFunc_Limpl_Atom_impl_Atom_M_IsQuery_c1 at hF
 exact Ac<|Af z z<|Aa<|Ac<|Ae z z<|Ae z z<|be hF fun x1 hr1 hF=>ci Tryz.call173 z z (c_Slices_IndexFunc_Limpl_Atom_impl_Atom_M_IsQuery_c1 a1 u1 (g1.now hC0.keep) pb1 ax1 (g2.now hC0.keep) x1 hr1) fun w1 hB1=>have hC1:=hC0.grow hB1;Cr z z z<|Af z z<|Aa<|AF<|rB hF z z hC1
theorem c_M_IsQuery {w0:World} (a1:Ta) (u1:Value) (g1:RO [] w0 u1 a1) (a2:Tl) (u2:Value) (g2:RO [] w0 u2 a2.1) (u3:Value) (g3:RO [] w0 u3 a2.2) (rr:Bool) (hF:M.IsQuery a1 a2=some rr) :
 Calls Tryz.prog 67 [u1,(.agg #[u2,u3])].toArray w0 fun e w'=>∃v,e=.returned v∧Res w0 rr v w':=by
 refine Av Tryz.func67 z z ?_
 have hC0:=A3 w0
 unfold M.IsQuery at hF
 refine Ac<|Be (cs:=[u1]) hC0 (ro_cells g1) z z fun b1 w1 hC1 hB1 hN1=>Be (cs:=[u2,u3]) hC1 z z z fun b2 w2 hC2 hB2 hN2=>Af z z<|Aa<|be hF fun r1 hr1 hF=>B9 (fun l w=>∃x1:Bool,x1=r1∧l=[(4,(.bool x1))]∧Below w2.heap.size w2 w∧Ctx [] w0 w []) ?_ ?_
 ·refine AL<|Al hC2 1 z z Au z z<|be hr1 fun x2 hr2 hr1=>cb CY z z (c_M_IsSchema a1 u1 (g1.now hC2.keep) x2 hr2) fun w4 hB4=>have hC4:=hC2.grow hB4;Ae z z<|wk hr1 (fun hr1=>?_) fun hr1=>?_
  ·refine Ai z z<|fd Bn BB z z z z<|Ai z z<|Al hC4 0 z z BK z z<|Ai z z<|AH By g3 z z<|be hr1 fun x3 hr3 hr1=>Ai z z<|cb BV z z (c_M_within (List.length a2.2:Int) 1 4 x3 hr3) fun w5 hB5=>have hC5:=hC4.grow hB5;AJ z z z<|Ae z z<|wk hr1 (fun hr1=>?_) fun hr1=>?_
   ·refine Ai z z<|fd Bn BB z z z z<|Ai z z<|Al hC5 0 z z BK z z<|Ai z z<|BP z z<|be hr1 fun x4 hr4 hr1=>Ai z z<|cb Tryz.call120 z z (c_Slices_ContainsFunc_Limpl_Atom_impl_Atom_M_IsQuery_c1 a2.2 u3 (g3.now hC5.keep) b1 a1 (hC5.boxAt 1 z (repw_slice (g1.now hC5.keep))) x4 hr4) fun w6 hB6=>have hC6:=hC5.grow hB6;Ai z z<|Bv z z<|AJ z z z<|Ae z z<|wk hr1 (fun hr1=>?_) fun hr1=>?_
    ·refine Ai z z<|Az [u2,u3] hC6 0 z z z BA B0 z z<|be hr1 fun x5 hr5 hr1=>Ai z z<|cb Tryz.call123 z z (c_M_hasHead (a2.1,a2.2) u2 (g2.now hC6.keep) u3 (g3.now hC6.keep) x5 hr5) fun w7 hB7=>have hC7:=hC6.grow hB7;AJ z z z<|Af z z<|Aa<|?_
     have hC8:=hC7.h0
     exact nS<|⟨x5,Ab hr1,z,((((Ao hB4).then hB5).then hB6).then hB7).below,hC8⟩
    refine gs z z z z<|gs z z z z<|AK z z z<|Af z z<|Aa<|?_
    have hC9:=hC6.h0
    exact nS<|⟨false,Ab hr1,z,(((Ao hB4).then hB5).then hB6).below,hC9⟩
   refine gs z z z z<|gs z z z z<|gs z z z z<|gs z z z z<|gs z z z z<|AK z z z<|Ae z z<|gs z z z z<|gs z z z z<|AK z z z<|Af z z<|Aa<|?_
   have hC10:=hC5.h0
   exact nS<|⟨false,Ab hr1,z,((Ao hB4).then hB5).below,hC10⟩
  refine gs z z z z<|gs z z z z<|gs z z z z<|gs z z z z<|AK z z z<|Ae z z<|gs z z z z<|gs z z z z<|gs z z z z<|gs z z z z<|gs z z z z<|AK z z z<|Ae z z<|gs z z z z<|gs z z z z<|AK z z z<|Af z z<|Aa<|?_
  have hC11:=hC4.h0
  exact nS<|⟨false,Ab hr1,z,(Ao hB4).below,hC11⟩
 rintro _ w3 ⟨x1,rfl,rfl,hB3,hC3⟩
 exact AF<|rB hF z z hC3
theorem c_M_Binding_entry {w0:World} (a1:Th) (u1:Value) (g1:RO [] w0 u1 a1.1) (u2:Value) (g2:RO [] w0 u2 a1.2) (a2:Int) (rr:Int) (hF:M.Binding_entry a1 a2=some rr) :
 Calls Tryz.prog 225 [(.agg #[u1,u2]),(I a2)].toArray w0 fun e w'=>∃v,e=.returned v∧Res w0 rr v w':=by
 refine Av Tryz.func225 z z ?_
 have hC0:=A3 w0
 unfold M.Binding_entry at hF
 exact Ac<|Be (cs:=[u1,u2]) hC0 z z z fun b1 w1 hC1 hB1 hN1=>Af z z<|Aa<|Ac<|fd Bc Aq z z z z<|Al hC1 0 z z Au z z<|fd Bc Aq z z z z<|Al hC1 0 z z Au z z<|AH Ag g1 z z<|fd Bc Aq z z z z<|Al hC1 0 z z Au z z<|AH Ag g2 z z<|WL_min z z z<|be hF fun x1 hx1 hF=>WL_slice_h Ag ty3 g1 hx1 z z z fun v1 h1=>Ae z z<|be hF fun x2 hr1 hF=>ci Tryz.call102 z z (c_Slices_Index_Lint_int x1 v1 (h1.now hC1.keep) a2 x2 hr1) fun w2 hB2=>have hC2:=hC1.grow hB2;Af z z<|Aa<|AF<|rI hF z z hC2
theorem c_M_ValueOf {w0:World} (a1:Th) (u1:Value) (g1:RO [] w0 u1 a1.1) (u2:Value) (g2:RO [] w0 u2 a1.2) (a2:Int) (rr:Int) (hF:M.ValueOf a1 a2=some rr) :
 Calls Tryz.prog 210 [(.agg #[u1,u2]),(I a2)].toArray w0 fun e w'=>∃v,e=.returned v∧Res w0 rr v w':=by
 refine Av Tryz.func210 z z ?_
 have hC0:=A3 w0
 unfold M.ValueOf at hF
 refine Ac<|Be (cs:=[u1,u2]) hC0 z z z fun b1 w1 hC1 hB1 hN1=>Af z z<|Aa<|A0<|Ac<|Ae z z<|be hF fun x1 hr1 hF=>cb CV z z (c_M_IsVar a2 x1 hr1) fun w2 hB2=>have hC2:=hC1.grow hB2;Bv z z<|Aa<|wc hF z (fun hF=>?_) fun hF=>?_
 ·exact Ac<|Ae z z<|Af z z<|Aa<|AF<|Ax<|rI hF z z hC2
 refine A5<|Am<|Ac<|Az [u1,u2] hC2 0 z z z B1 Ba z z<|Ae z z<|be hF fun x2 hr2 hF=>ci Tryz.call225 z z (c_M_Binding_entry (a1.1,a1.2) u1 (g1.now hC2.keep) u2 (g2.now hC2.keep) a2 x2 hr2) fun w3 hB3=>have hC3:=hC2.grow hB3;Af z z<|Aa<|A0<|Ac<|Ae z z<|AZ z z z<|Aa<|wc hF z (fun hF=>?_) fun hF=>?_
 ·exact Ac<|Af z z<|Aa<|AF<|Ax<|rI hF z z hC3
 refine A5<|Am<|Ac<|fd Bc Aq z z z z<|Al hC3 0 z z Au z z<|Ae z z<|be hF fun x3 hx1 hF=>A9 Ag ty3 g2 hx1 z z z fun b2 o1 h1=>AD ty3 h1 hC3.keep z z fun v1 h2=>?_
 obtain rfl:=Bo h2
 exact Af z z<|Aa<|AF<|rI hF z z hC3
theorem c_M_TupleOf {w0:World} (a1:Tl) (u1:Value) (g1:RO [] w0 u1 a1.1) (u2:Value) (g2:RO [] w0 u2 a1.2) (a2:Th) (u3:Value) (g3:RO [] w0 u3 a2.1) (u4:Value) (g4:RO [] w0 u4 a2.2) (rr:Ta) (hF:M.TupleOf a1 a2=some rr) :
 Calls Tryz.prog 177 [(.agg #[u1,u2]),(.agg #[u3,u4])].toArray w0 fun e w'=>∃v,e=.returned v∧Res w0 rr v w':=by
 refine Av Tryz.func177 z z ?_
 have hC0:=A3 w0
 unfold M.TupleOf at hF
 refine Ac<|Be (cs:=[u1,u2]) hC0 z z z fun b1 w1 hC1 hB1 hN1=>Be (cs:=[u3,u4]) hC1 z z z fun b2 w2 hC2 hB2 hN2=>Af z z<|Aa<|Ac<|Ar (vs:=[]) hC2 Ag ty3 z z z z (by simp) z z fun b3 w3 hC3 hB3=>?_
 have hC6:=hC3.rowE (α:=Int)
 refine Af z z<|Aa<|A0<|Ac<|fd Bn Aq z z z z<|Al hC6 2 z z Au z z<|AH Ag g1 z z<|Ae z z<|Aa<|be hF fun r1 hr1 hF=>wN (fun l w=>∃v2:Value,∃x3:Ta,x3=r1∧l=[(5,v2)]∧Ctx [] w0 w [Ad v2 x3]) ?_ ?_
 ·refine A4<|have hC20:=hC6.f1;have hC21:=hC20.f1;have hC22:=hC21.h2;wT<|Bj (fun k l w=>∃v1:Value,∃x1:Ta,∃x2:Int,l=[(3,(ptr b2 0)),(5,v1),(10,u1),(11,(I (List.length a1.1:Int))),(12,(I x2))]∧Ctx [] w0 w [Ad v1 x1,Ah b2 [u3,u4]]∧M.TupleOf_l1 a1 a2 k x1 x2=some r1) FUEL ⟨(.slice (some ⟨b3,0,none⟩) 0 0),([]:List Int),0,z,hC22,hr1⟩<|?_
  clear hr1
  rintro k1 _ w4 ⟨v1,x1,x2,rfl,hC7,hL1⟩
  obtain _|k1:=k1<;>rw [M.TupleOf_l1] at hL1
  ·cases hL1
  refine Ac<|AZ z z z<|Aa<|A0<|wc hL1 z (fun hL1=>?_) fun hL1=>?_
  ·refine A5<|Am<|A0<|A4<|Ac<|be hL1 fun x4 hx1 hL1=>A9 Ag ty3 g1 hx1 z z z fun b4 o1 h1=>AD ty3 h1 hC7.keep z z fun v3 h2=>?_
   obtain rfl:=Bo h2
   refine Af z z<|Aa<|AL<|Ae z z<|Az [u3,u4] hC7 1 z z z B1 Ba z z<|Ae z z<|be hL1 fun x5 hr2 hL1=>ci Tryz.call210 z z (c_M_ValueOf (a2.1,a2.2) u3 (g3.now hC7.keep) u4 (g4.now hC7.keep) x4 x5 hr2) fun w5 hB5=>have hC8:=hC7.grow hB5;Ar (vs:=[(I x5)]) hC8 Ag ty3 z z z z (fac z<|fa0) z z fun b5 w6 hC9 hB6=>?_
   have hC14:=hC9.row1i
   refine be hL1 fun x6 hx2 hL1=>AS (α:=Int) hC14 1 z (hC14.ro 0 z) (Ay _ _) Ag ty3 z hx2 z z z fun v4 w7 hC15=>?_
   try dsimp only [List.set] at hC15
   exact Af z z<|Aa<|AN<|Am<|AL<|AW z z z<|Ae z z<|Aa<|have hC16:=hC15.f2;have hC17:=hC16.f2;have hC18:=hC17.h2;nS<|⟨k1,Aw _,v4,x6,w64 (x2+1),z,hC18,hL1⟩
  refine Bi (A2 (A2 (AM ?_)))
  have hC19:=hC7.h1
  exact nS<|⟨v1,x1,Ab hL1,z,hC19⟩
 rintro _ w9 ⟨v2,x3,rfl,rfl,hC23⟩
 exact Ac<|Ae z z<|Af z z<|Aa<|AF<|rO hF z z hC23 0 z
theorem c_M_tuplesOf {w0:World} (a1:Tl) (u1:Value) (g1:RO [] w0 u1 a1.1) (u2:Value) (g2:RO [] w0 u2 a1.2) (a2:Tk) (u3:Value) (g3:RO [] w0 u3 a2) (rr:Tj) (hF:M.tuplesOf a1 a2=some rr) :
 Calls Tryz.prog 124 [(.agg #[u1,u2]),u3].toArray w0 fun e w'=>∃v,e=.returned v∧Res w0 rr v w':=by
 refine Av Tryz.func124 z z ?_
 have hC0:=A3 w0
 unfold M.tuplesOf at hF
 refine Ac<|Be (cs:=[u1,u2]) hC0 z z z fun b1 w1 hC1 hB1 hN1=>Af z z<|Aa<|Ac<|Ar (vs:=[]) hC1 AC ty24 z z z z (by simp) z z fun b2 w2 hC2 hB2=>?_
 have hC5:=hC2.rowE (α:=Ta)
 refine Af z z<|Aa<|A0<|Ac<|Ae z z<|AH Bz g3 z z<|Ae z z<|Aa<|be hF fun r1 hr1 hF=>wN (fun l w=>∃v2:Value,∃x3:Tj,x3=r1∧l=[(5,v2)]∧Ctx [] w0 w [Ad v2 x3]) ?_ ?_
 ·refine A4<|wT<|Bj (fun k l w=>∃v1:Value,∃x1:Tj,∃x2:Int,l=[(2,(ptr b1 0)),(5,v1),(9,u3),(10,(I (List.length a2:Int))),(11,(I x2))]∧Ctx [] w0 w [Ad v1 x1,Ah b1 [u1,u2]]∧M.tuplesOf_l1 a2 a1 k x1 x2=some r1) FUEL ⟨(.slice (some ⟨b2,0,none⟩) 0 0),([]:List Ta),0,z,hC5,hr1⟩<|?_
  clear hr1
  rintro k1 _ w3 ⟨v1,x1,x2,rfl,hC6,hL1⟩
  obtain _|k1:=k1<;>rw [M.tuplesOf_l1] at hL1
  ·cases hL1
  refine Ac<|AZ z z z<|Aa<|A0<|wc hL1 z (fun hL1=>?_) fun hL1=>?_
  ·refine A5<|Am<|A0<|A4<|Ac<|be hL1 fun x4 hx1 hL1=>A9 Bz ty149 g3 hx1 z z z fun b3 o1 h1=>AD ty149 h1 hC6.keep z z fun v3 h2=>?_
   obtain ⟨v4,v5,rfl,h3,h4⟩:=C6 h2
   refine Bq hC6 zero149 z z fun b4 w4 hC7 hB4 hN2=>AE (cs':=[v4,v5]) (new:=[v4,v5]) hC7 0 z z (fac (Br h3)<|fac (Br h4)<|fa0) z Ba z z fun w5 hC8 hKp1=>?_
   try dsimp only [List.set] at hC8
   have hk1:=AV (Ao hB4) hN2 hKp1
   refine Aa<|AL<|Ae z z<|Az [u1,u2] hC8 2 z z z BA B0 z z<|Az [v4,v5] hC8 0 z z z B1 Ba z z<|be hL1 fun x5 hr2 hL1=>AA Tryz.call177 z z (c_M_TupleOf (a1.1,a1.2) u1 (g1.now hC8.keep) u2 (g2.now hC8.keep) (x4.1,x4.2) v4 (h3.now hC8.keep) v5 (h4.now hC8.keep) x5 hr2)<|?_
   rintro v6 w6 ⟨hB5,F1,hv1,hn1,hb1⟩
   have hC9:=hC8.push hB5 (A:=Ad v6 x5) hv1 hn1 hb1
   refine be hL1 fun x6 hr3 hL1=>have hC10:=hC9.f2;?_
   obtain ⟨Fs1,hH1,hn2,hF1,hO1,hb2⟩:=hC10.lA
   refine AA Tryz.call87 z z (c_M_addedTuple x1 v1 x5 v6 (hO1 0 _ _ _ z) hH1 hn2 x6 hr3) ?_
   rintro v7 w7 ⟨_,rfl,hq1⟩
   have hC11:=hb2 _ _ hq1
   exact Af z z<|Aa<|AN<|Am<|AL<|AW z z z<|Ae z z<|Aa<|have hC12:=hC11.f3;have hC13:=hC12.f1;have hC14:=hC13.h2;nS<|⟨k1,Aw _,v7,x6,w64 (x2+1),z,hC14,hL1⟩
  refine Bi (A2 (A2 (AM ?_)))
  have hC15:=hC6.h1
  exact nS<|⟨v1,x1,Ab hL1,z,hC15⟩
 rintro _ w9 ⟨v2,x3,rfl,rfl,hC16⟩
 exact Ac<|Ae z z<|Af z z<|Aa<|AF<|rO hF z z hC16 0 z
theorem c_M_copyBinding {w0:World} (a1:Th) (u1:Value) (g1:RO [] w0 u1 a1.1) (u2:Value) (g2:RO [] w0 u2 a1.2) (rr:Th) (hF:M.copyBinding a1=some rr) :
 Calls Tryz.prog 226 [(.agg #[u1,u2])].toArray w0 fun e w'=>∃v,e=.returned v∧Res w0 rr v w':=by
 refine Av Tryz.func226 z z ?_
 have hC0:=A3 w0
 unfold M.copyBinding at hF
 refine Ac<|Be (cs:=[u1,u2]) hC0 z z z fun b1 w1 hC1 hB1 hN1=>Bq hC1 zero149 z z fun b2 w2 hC2 hB2 hN2=>Aa<|A0<|W_drawn 8 z hmix fun w3 hB3=>have hC3:=hC2.grow hB3;tf 0 Bc Aq z z z z z<|tf 3 Bc Aq z z z z z<|be hF fun x1 hr1 hF=>wAS (l':=[(0,(.agg #[u1,u2])),(1,(ptr b1 0)),(2,(ptr b2 0)),(3,(ptr b1 0)),(6,(ptr b1 1))]) ⟨z,z,z,z,z,A6⟩<|Bg [⟨1,[],fun vs=>AQ u1,[]⟩,⟨2,[],fun vs=>BS x1,[]⟩,⟨4,[],fun vs=>AQ u2,[]⟩] [[],[1],[]] 3 z (by kernel_rfl) (by kernel_rfl) z ?_ ?_
 ·refine An z ?_ ?_
  ·intro w5 hB5
   refine At<|⟨_,z,?_⟩
   exact Al (hC3.grow hB5) 1 z z Au z z<|Aa<|A1 (Aj _ _) z z ⟨z,z⟩
  refine An z ?_ ?_
  ·intro w5 hB5
   refine AG z z z ?_
   rintro _ _ ⟨rfl,rfl⟩ _
   refine At<|⟨_,z,?_⟩
   refine AA CE z z (c_Slices_Clone_Lint_int a1.1 u1 (g1.now (hC3.keep.then hB5)) x1 hr1) ?_
   rintro v1 w4 ⟨hB4,F1,hv1,hn1,hb1⟩
   exact Aa<|BZ hB4 z z hv1 hn1 hb1 (Val.inh hv1)
  refine An z ?_ ?_
  ·intro w5 hB5
   refine At<|⟨_,z,?_⟩
   exact Al (hC3.grow hB5) 1 z z Au z z<|Aa<|A1 (Aj _ _) z z ⟨z,z⟩
  exact AX
 intro w6 hB6
 refine Ap z z z ?_
 rintro _ _ ⟨rfl,rfl⟩
 refine Ap z z z fun v1 F1 hv1=>Ap z z z<|?_
 rintro _ _ ⟨rfl,rfl⟩
 refine Bm ?_
 intro hn2 hb2
 have hC4:=hC3.pushL hB6 (Bs:=[Ad v1 x1]) (Fs:=[F1]) ⟨F1,_,z,hv1,z⟩ (by simpa using hn2) (fun b h=>(hb2 b (by simpa using h)).1)
 refine be hF fun x2 hr2 hF=>oe 5 z<|AA CE z z (c_Slices_Clone_Lint_int a1.2 u2 (g2.now hC4.keep) x2 hr2)<|?_
 rintro v2 w7 ⟨hB7,F2,hv2,hn3,hb3⟩
 have hC5:=hC4.push hB7 (A:=Ad v2 x2) hv2 hn3 hb3
 refine Aa<|tk 6 z z (BR (vs:=[(0,v1),(1,v2)]) z z (built149_0_1 (ro_cells (hC5.ro 1 z)) (ro_cells (hC5.ro 0 z))))<|B4 (vs:=[(0,v1),(1,v2)]) z z z (built149_0_1 (ro_cells (hC5.ro 1 z)) (ro_cells (hC5.ro 0 z)))<|Aa<|oe 7 z<|AE (cs':=[v1,v2]) (new:=[v1,v2]) hC5 2 z z (fac (Br (hC5.ro 1 z))<|fac (Br (hC5.ro 0 z))<|fa0) z Ba z z fun w9 hC6 hKp1=>?_
 try dsimp only [List.set] at hC6
 have hk1:=AV (((((Ao hB1).then hB2).then hB3).then hB6).then hB7) (Bl (Ao hB1).size hN2) hKp1
 have hk2:=AV ((((Ao hB2).then hB3).then hB6).then hB7) hN2 hKp1
 refine Aa<|dn<|Am<|AF<|?_
 obtain rfl:=Ab hF
 refine BY z (rv_cell_agg (cs':=[v1,v2]) hC6 (i:=2) z z z B1 Ba z)<|have hC9:=hC6.f1;?_
 have hC7:=Ce v1 x1 v2 x2 hC9
 exact ⟨_,z,CJ hC7 0 z⟩
theorem c_M_MatchAtom {w0:World} (a1:Th) (u1:Value) (g1:RO [] w0 u1 a1.1) (u2:Value) (g2:RO [] w0 u2 a1.2) (a2:Tb) (u3:Value) (g3:RO [] w0 u3 a2.2) (a3:Tb) (u4:Value) (g4:RO [] w0 u4 a3.2) (rr:(Th × Bool)) (hF:M.MatchAtom a1 a2 a3=some rr) :
 Calls Tryz.prog 211 [(.agg #[u1,u2]),(.agg #[(I a2.1),u3]),(.agg #[(I a3.1),u4])].toArray w0 fun e w'=>∃v,e=.returned v∧Res2 w0 rr.1 rr.2 v w':=by
 refine Av Tryz.func211 z z ?_
 have hC0:=A3 w0
 unfold M.MatchAtom at hF
 refine Ac<|Be (cs:=[u1,u2]) hC0 z z z fun b1 w1 hC1 hB1 hN1=>Be (cs:=[(I a2.1),u3]) hC1 z z z fun b2 w2 hC2 hB2 hN2=>Be (cs:=[(I a3.1),u4]) hC2 z z z fun b3 w3 hC3 hB3 hN3=>Bq hC3 zero149 z z fun b4 w4 hC4 hB4 hN4=>Af z z<|Aa<|A0<|be hF fun r1 hr1 hF=>B9 (fun l w=>∃x1:Bool,x1=r1∧l=[(3,(ptr b1 0)),(4,(ptr b2 0)),(5,(ptr b3 0)),(6,(ptr b4 0)),(33,(.bool x1))]∧Below w4.heap.size w4 w∧Ctx [] w0 w [Ah b4 [(.slice none 0 0),(.slice none 0 0)],Ah b3 [(I a3.1),u4],Ah b2 [(I a2.1),u3],Ah b1 [u1,u2]]) ?_ ?_
 ·refine AL<|fd AY A7 z z z z<|Al hC4 2 z z AU z z<|fd AB A7 z z z z<|Al hC4 1 z z AU z z<|BQ z z z<|Ae z z<|wk hr1 (fun hr1=>?_) fun hr1=>?_
  ·exact gs z z z z<|gs z z z z<|gs z z z z<|gs z z z z<|gs z z z z<|gs z z z z<|gs z z z z<|AJ z z z<|Ae z z<|gs z z z z<|gs z z z z<|gs z z z z<|gs z z z z<|gs z z z z<|gs z z z z<|gs z z z z<|AJ z z z<|Aa<|nS<|⟨true,Ab hr1,z,(Aj _ _),hC4⟩
  refine Ai z z<|fd AY Aq z z z z<|Ai z z<|Al hC4 2 z z Au z z<|Ai z z<|AH Ag g3 z z<|Ai z z<|fd AB Aq z z z z<|Ai z z<|Al hC4 1 z z Au z z<|Ai z z<|AH Ag g4 z z<|Ai z z<|BQ z z z<|AK z z z<|Ae z z<|wk hr1 (fun hr1=>?_) fun hr1=>?_
  ·exact gs z z z z<|gs z z z z<|gs z z z z<|gs z z z z<|gs z z z z<|gs z z z z<|gs z z z z<|AJ z z z<|Aa<|nS<|⟨true,Ab hr1,z,(Aj _ _),hC4⟩
  exact Ai z z<|fd Bc Aq z z z z<|Ai z z<|Al hC4 3 z z Au z z<|Ai z z<|AH Ag g1 z z<|Ai z z<|fd Bc Aq z z z z<|Ai z z<|Al hC4 3 z z Au z z<|Ai z z<|AH Ag g2 z z<|Ai z z<|BQ z z z<|AK z z z<|Aa<|nS<|⟨(!decide ((List.length a1.1:Int)=(List.length a1.2:Int))),Ab hr1,z,(Aj _ _),hC4⟩
 rintro _ w5 ⟨x1,rfl,rfl,hB5,hC5⟩
 refine wc hF z (fun hF=>?_) fun hF=>?_
 ·refine Ac<|B4 (vs:=[]) z z z built149<|AE (cs':=[(.slice none 0 0),(.slice none 0 0)]) (new:=[(.slice none 0 0),(.slice none 0 0)]) hC5 0 z z (fac z<|fac z<|fa0) z Ba z z fun w6 hC6 hKp1=>?_
  try dsimp only [List.set] at hC6
  have hk1:=AV (((((Ao hB1).then hB2).then hB3).then hB4).then hB5) (Bl (((Ao hB1).then hB2).then hB3).size hN4) hKp1
  have hk2:=AV ((((Ao hB2).then hB3).then hB4).then hB5) (Bl ((Ao hB2).then hB3).size hN4) hKp1
  have hk3:=AV (((Ao hB3).then hB4).then hB5) (Bl (Ao hB3).size hN4) hKp1
  have hk4:=AV ((Ao hB4).then hB5) hN4 hKp1
  refine Af z z<|Aa<|AF<|Ax<|?_
  obtain rfl:=Ab hF
  refine De z (rv_cell_agg (cs':=[(.slice none 0 0),(.slice none 0 0)]) hC6 (i:=0) z z z B1 Ba z) (rv_tmp z) ?_
  have hC7:=hC6.triv (BN (false))
  have hC9:=hC7.triv (nil_val (α:=Int))
  have hC10:=hC9.triv (nil_val (α:=Int))
  have hC8:=Ce (.slice none 0 0) ([]) (.slice none 0 0) ([]) hC10
  exact ⟨_,z,res2_of hC8⟩
 refine A5<|Am<|Ac<|Az [u1,u2] hC5 3 z z z B1 Ba z z<|be hF fun x2 hr2 hF=>AA Tryz.call226 z z (c_M_copyBinding (a1.1,a1.2) u1 (g1.now hC5.keep) u2 (g2.now hC5.keep) x2 hr2)<|?_
 rintro v1 w7 ⟨hB6,F1,hv1,hn1,hb1⟩
 have hC11:=hC5.push hB6 (A:=Ad v1 x2) hv1 hn1 hb1
 obtain ⟨v2,v3,rfl,hC12⟩:=st149_own hC11
 refine Bq hC12 zero149 z z fun b5 w9 hC13 hB7 hN5=>AE (cs':=[v2,v3]) (new:=[v2,v3]) hC13 0 z z (fac (Br (hC13.ro 1 z))<|fac (Br (hC13.ro 2 z))<|fa0) z Ba z z fun w10 hC14 hKp2=>?_
 try dsimp only [List.set] at hC14
 have hk5:=AV (((((((Ao hB1).then hB2).then hB3).then hB4).then hB5).then hB6).then hB7) (Bl ((((((Ao hB1).then hB2).then hB3).then hB4).then hB5).then hB6).size hN5) hKp2
 have hk6:=AV ((((((Ao hB2).then hB3).then hB4).then hB5).then hB6).then hB7) (Bl (((((Ao hB2).then hB3).then hB4).then hB5).then hB6).size hN5) hKp2
 have hk7:=AV (((((Ao hB3).then hB4).then hB5).then hB6).then hB7) (Bl ((((Ao hB3).then hB4).then hB5).then hB6).size hN5) hKp2
 have hk8:=AV ((((Ao hB4).then hB5).then hB6).then hB7) (Bl (((Ao hB4).then hB5).then hB6).size hN5) hKp2
 have hk9:=AV (((Ao hB5).then hB6).then hB7) (Bl ((Ao hB5).then hB6).size hN5) hKp2
 have hk10:=AV ((Ao hB6).then hB7) (Bl (Ao hB6).size hN5) hKp2
 have hk11:=AV (Ao hB7) hN5 hKp2
 refine Aa<|A0<|Ac<|fd AY Aq z z z z<|Al hC14 5 z z Au z z<|AH Ag g3 z z<|Ae z z<|Aa<|be hF fun r2 hr3 hF=>wN (fun l w=>∃v8:Value,∃x8:Ta,∃v9:Value,∃x9:Ta,∃v10:Value,∃x10:Ta,∃v11:Value,∃x11:Ta,.inl (x8,x9,x10,x11)=r2∧l=[(6,(ptr b4 0)),(8,(ptr b5 0))]∧Ctx [] w0 w [Ad v11 x11,Ad v10 x10,Ah b5 [v8,v9],Ad v8 x8,Ad v9 x9,Ah b4 [v10,v11]]) ?_ ?_
 ·refine A4 ?_
  have hC60:=hC14.triv (nil_val (α:=Int))
  have hC61:=hC60.triv (nil_val (α:=Int))
  have hC69:=hC61.f6.f6.f6.f6.f6.f5.f6.h7
  refine wT<|Bj (fun k l w=>∃v4:Value,∃x3:Ta,∃v5:Value,∃x4:Ta,∃v6:Value,∃x5:Ta,∃v7:Value,∃x6:Ta,∃x7:Int,l=[(5,(ptr b3 0)),(6,(ptr b4 0)),(8,(ptr b5 0)),(38,u3),(39,(I (List.length a2.2:Int))),(40,(I x7))]∧Ctx [] w0 w [Ad v7 x6,Ad v6 x5,Ah b5 [v4,v5],Ad v4 x3,Ad v5 x4,Ah b4 [v6,v7],Ah b3 [(I a3.1),u4]]∧M.MatchAtom_l1 a2 a3 k x3 x4 x5 x6 x7=some r2) FUEL ⟨v2,x2.1,v3,x2.2,(.slice none 0 0),[],(.slice none 0 0),[],0,z,hC69,hr3⟩<|?_
  clear hr3
  rintro k1 _ w11 ⟨v4,x3,v5,x4,v6,x5,v7,x6,x7,rfl,hC15,hL1⟩
  obtain _|k1:=k1<;>rw [M.MatchAtom_l1] at hL1
  ·cases hL1
  refine Ac<|AZ z z z<|Aa<|A0<|wc hL1 z (fun hL1=>?_) fun hL1=>?_
  ·refine A5<|Am<|A0<|A4<|Ac<|Ae z z<|be hL1 fun x12 hx1 hL1=>A9 Ag ty3 g3 hx1 z z z fun b6 o1 h1=>AD ty3 h1 hC15.keep z z fun v12 h2=>?_
   obtain rfl:=Bo h2
   refine Af z z<|Af z z<|Aa<|A0<|be hL1 fun r3 hr4 hL1=>B9 (fun l w=>∃x13:Bool,x13=r3∧l=[(5,(ptr b3 0)),(6,(ptr b4 0)),(8,(ptr b5 0)),(9,(I x7)),(10,(I x12)),(38,u3),(39,(I (List.length a2.2:Int))),(40,(I x7)),(52,(.bool x13))]∧Below w11.heap.size w11 w∧Ctx [] w0 w [Ad v7 x6,Ad v6 x5,Ah b5 [v4,v5],Ad v4 x3,Ad v5 x4,Ah b4 [v6,v7],Ah b3 [(I a3.1),u4]]) ?_ ?_
   ·refine AL<|Ae z z<|be hr4 fun x14 hr5 hr4=>cb CV z z (c_M_IsVar x12 x14 hr5) fun w13 hB10=>have hC17:=hC15.grow hB10;Ae z z<|wk hr4 (fun hr4=>?_) fun hr4=>?_
    ·exact Ai z z<|Az [v4,v5] hC17 2 z z z B1 Ba z z<|Ai z z<|Ae z z<|be hr4 fun x15 hr6 hr4=>Ai z z<|ci Tryz.call225 z z (c_M_Binding_entry (x3,x4) v4 ((hC17.ro 3 z).now (Ay _ _)) v5 ((hC17.ro 4 z).now (Ay _ _)) x12 x15 hr6) fun w14 hB11=>have hC18:=hC17.grow hB11;Ai z z<|AZ z z z<|AJ z z z<|Aa<|nS<|⟨(decide (x15 < 0)),Ab hr4,z,((Ao hB10).then hB11).below,hC18⟩
    exact gs z z z z<|gs z z z z<|gs z z z z<|gs z z z z<|AK z z z<|Aa<|nS<|⟨false,Ab hr4,z,(Ao hB10).below,hC17⟩
   rintro _ w12 ⟨x13,rfl,rfl,hB9,hC16⟩
   refine be hL1 fun r4 hr7 hL1=>wN (fun l w=>∃v13:Value,∃x16:Ta,∃v14:Value,∃x17:Ta,(x16,x17)=r4∧l=[(5,(ptr b3 0)),(6,(ptr b4 0)),(8,(ptr b5 0)),(9,(I x7)),(10,(I x12)),(38,u3),(39,(I (List.length a2.2:Int))),(40,(I x7))]∧Ctx [] w0 w [Ad v7 x6,Ad v6 x5,Ah b5 [v13,v14],Ad v13 x16,Ad v14 x17,Ah b4 [v6,v7],Ah b3 [(I a3.1),u4]]) ?_ ?_
   ·refine wc hr7 z (fun hr7=>?_) fun hr7=>?_
    ·refine be hr7 fun r5 hr8 hr7=>C7 (fun l w=>∃v15:Value,∃x18:Ta,∃v16:Value,∃x19:Ta,(x18,x19)=r5∧l=[(5,(ptr b3 0)),(6,(ptr b4 0)),(8,(ptr b5 0)),(9,(I x7)),(10,(I x12)),(38,u3),(39,(I (List.length a2.2:Int))),(40,(I x7))]∧Ctx [] w0 w [Ad v7 x6,Ad v6 x5,Ah b5 [v15,v16],Ad v15 x18,Ad v16 x19,Ah b4 [v6,v7],Ah b3 [(I a3.1),u4]]) ?_ ?_
     ·refine W_drawn 18 z hmix fun w17 hB14=>have hC21:=hC16.grow hB14;tf 0 Bc Aq z z z z z<|tm 2 z z z<|tf 5 Bc Aq z z z z z<|tf 7 AB Aq z z z z z<|tm 9 z z z<|be hr8 fun x20 hx2 hr8=>be hr8 fun x21 hx3 hr8=>be hr8 fun x22 hx4 hr8=>WA_dag 18 [(fun l w=>SubL [(5,(ptr b3 0)),(6,(ptr b4 0)),(8,(ptr b5 0)),(9,(I x7)),(10,(I x12)),(38,u3),(39,(I (List.length a2.2:Int))),(40,(I x7)),(52,(.bool x13)),(53,(ptr b5 0)),(55,(I x12)),(58,(ptr b5 1)),(60,(ptr b3 1)),(62,(I x7))] l∧Ctx [] w0 w [Ad v7 x6,Ad v6 x5,Ah b5 [v4,v5],Ad v4 x3,Ad v5 x4,Ah b4 [v6,v7],Ah b3 [(I a3.1),u4]]),(fun l w=>SubL [(5,(ptr b3 0)),(6,(ptr b4 0)),(8,(ptr b5 0)),(9,(I x7)),(10,(I x12)),(38,u3),(39,(I (List.length a2.2:Int))),(40,(I x7)),(52,(.bool x13)),(54,v4),(55,(I x12)),(58,(ptr b5 1)),(60,(ptr b3 1)),(62,(I x7))] l∧Ctx [] w0 w [Ad v7 x6,Ad v6 x5,Ah b5 [v4,v5],Ad v4 x3,Ad v5 x4,Ah b4 [v6,v7],Ah b3 [(I a3.1),u4]]),(fun l w=>∃b7:Nat,SubL [(5,(ptr b3 0)),(6,(ptr b4 0)),(8,(ptr b5 0)),(9,(I x7)),(10,(I x12)),(38,u3),(39,(I (List.length a2.2:Int))),(40,(I x7)),(52,(.bool x13)),(53,(ptr b5 0)),(56,(.slice (some ⟨b7,0,none⟩) 1 1)),(58,(ptr b5 1)),(60,(ptr b3 1)),(62,(I x7))] l∧Ctx [] w0 w [Ad (.slice (some ⟨b7,0,none⟩) 1 1) ([x12]:Ta),Ad v7 x6,Ad v6 x5,Ah b5 [v4,v5],Ad v4 x3,Ad v5 x4,Ah b4 [v6,v7],Ah b3 [(I a3.1),u4]]),(fun l w=>SubL [(5,(ptr b3 0)),(6,(ptr b4 0)),(8,(ptr b5 0)),(9,(I x7)),(10,(I x12)),(38,u3),(39,(I (List.length a2.2:Int))),(40,(I x7)),(52,(.bool x13)),(53,(ptr b5 0)),(55,(I x12)),(59,v5),(60,(ptr b3 1)),(62,(I x7))] l∧Ctx [] w0 w [Ad v7 x6,Ad v6 x5,Ah b5 [v4,v5],Ad v4 x3,Ad v5 x4,Ah b4 [v6,v7],Ah b3 [(I a3.1),u4]]),(fun l w=>SubL [(5,(ptr b3 0)),(6,(ptr b4 0)),(8,(ptr b5 0)),(9,(I x7)),(10,(I x12)),(38,u3),(39,(I (List.length a2.2:Int))),(40,(I x7)),(52,(.bool x13)),(53,(ptr b5 0)),(55,(I x12)),(58,(ptr b5 1)),(61,u4),(62,(I x7))] l∧Ctx [] w0 w [Ad v7 x6,Ad v6 x5,Ah b5 [v4,v5],Ad v4 x3,Ad v5 x4,Ah b4 [v6,v7],Ah b3 [(I a3.1),u4]]),(fun l w=>∃b7:Nat,SubL [(5,(ptr b3 0)),(6,(ptr b4 0)),(8,(ptr b5 0)),(9,(I x7)),(10,(I x12)),(38,u3),(39,(I (List.length a2.2:Int))),(40,(I x7)),(52,(.bool x13)),(54,v4),(56,(.slice (some ⟨b7,0,none⟩) 1 1)),(58,(ptr b5 1)),(60,(ptr b3 1)),(62,(I x7))] l∧Ctx [] w0 w [Ad (.slice (some ⟨b7,0,none⟩) 1 1) ([x12]:Ta),Ad v7 x6,Ad v6 x5,Ah b5 [v4,v5],Ad v4 x3,Ad v5 x4,Ah b4 [v6,v7],Ah b3 [(I a3.1),u4]]),(fun l w=>SubL [(5,(ptr b3 0)),(6,(ptr b4 0)),(8,(ptr b5 0)),(9,(I x7)),(10,(I x12)),(38,u3),(39,(I (List.length a2.2:Int))),(40,(I x7)),(52,(.bool x13)),(54,v4),(55,(I x12)),(59,v5),(60,(ptr b3 1)),(62,(I x7))] l∧Ctx [] w0 w [Ad v7 x6,Ad v6 x5,Ah b5 [v4,v5],Ad v4 x3,Ad v5 x4,Ah b4 [v6,v7],Ah b3 [(I a3.1),u4]]),(fun l w=>SubL [(5,(ptr b3 0)),(6,(ptr b4 0)),(8,(ptr b5 0)),(9,(I x7)),(10,(I x12)),(38,u3),(39,(I (List.length a2.2:Int))),(40,(I x7)),(52,(.bool x13)),(54,v4),(55,(I x12)),(58,(ptr b5 1)),(61,u4),(62,(I x7))] l∧Ctx [] w0 w [Ad v7 x6,Ad v6 x5,Ah b5 [v4,v5],Ad v4 x3,Ad v5 x4,Ah b4 [v6,v7],Ah b3 [(I a3.1),u4]]),(fun l w=>∃b7:Nat,SubL [(5,(ptr b3 0)),(6,(ptr b4 0)),(8,(ptr b5 0)),(9,(I x7)),(10,(I x12)),(38,u3),(39,(I (List.length a2.2:Int))),(40,(I x7)),(52,(.bool x13)),(53,(ptr b5 0)),(56,(.slice (some ⟨b7,0,none⟩) 1 1)),(59,v5),(60,(ptr b3 1)),(62,(I x7))] l∧Ctx [] w0 w [Ad (.slice (some ⟨b7,0,none⟩) 1 1) ([x12]:Ta),Ad v7 x6,Ad v6 x5,Ah b5 [v4,v5],Ad v4 x3,Ad v5 x4,Ah b4 [v6,v7],Ah b3 [(I a3.1),u4]]),(fun l w=>∃b7:Nat,SubL [(5,(ptr b3 0)),(6,(ptr b4 0)),(8,(ptr b5 0)),(9,(I x7)),(10,(I x12)),(38,u3),(39,(I (List.length a2.2:Int))),(40,(I x7)),(52,(.bool x13)),(53,(ptr b5 0)),(56,(.slice (some ⟨b7,0,none⟩) 1 1)),(58,(ptr b5 1)),(61,u4),(62,(I x7))] l∧Ctx [] w0 w [Ad (.slice (some ⟨b7,0,none⟩) 1 1) ([x12]:Ta),Ad v7 x6,Ad v6 x5,Ah b5 [v4,v5],Ad v4 x3,Ad v5 x4,Ah b4 [v6,v7],Ah b3 [(I a3.1),u4]]),(fun l w=>SubL [(5,(ptr b3 0)),(6,(ptr b4 0)),(8,(ptr b5 0)),(9,(I x7)),(10,(I x12)),(38,u3),(39,(I (List.length a2.2:Int))),(40,(I x7)),(52,(.bool x13)),(53,(ptr b5 0)),(55,(I x12)),(59,v5),(61,u4),(62,(I x7))] l∧Ctx [] w0 w [Ad v7 x6,Ad v6 x5,Ah b5 [v4,v5],Ad v4 x3,Ad v5 x4,Ah b4 [v6,v7],Ah b3 [(I a3.1),u4]]),(fun l w=>∃b8:Nat,∃o2:Nat,SubL [(5,(ptr b3 0)),(6,(ptr b4 0)),(8,(ptr b5 0)),(9,(I x7)),(10,(I x12)),(38,u3),(39,(I (List.length a2.2:Int))),(40,(I x7)),(52,(.bool x13)),(53,(ptr b5 0)),(55,(I x12)),(58,(ptr b5 1)),(63,(ptr b8 o2))] l∧ROAt [] w0 b8 o2 x21∧Ctx [] w0 w [Ad v7 x6,Ad v6 x5,Ah b5 [v4,v5],Ad v4 x3,Ad v5 x4,Ah b4 [v6,v7],Ah b3 [(I a3.1),u4]]),(fun l w=>∃b7:Nat,∃v17:Value,SubL [(5,(ptr b3 0)),(6,(ptr b4 0)),(8,(ptr b5 0)),(9,(I x7)),(10,(I x12)),(38,u3),(39,(I (List.length a2.2:Int))),(40,(I x7)),(52,(.bool x13)),(57,v17),(58,(ptr b5 1)),(60,(ptr b3 1)),(62,(I x7))] l∧Ctx [] w0 w [Ad (.slice (some ⟨b7,0,none⟩) 1 1) ([x12]:Ta),Ad v7 x6,Ad v6 x5,Ah b5 [v4,v5],Ad v17 x20,Ad v5 x4,Ah b4 [v6,v7],Ah b3 [(I a3.1),u4]]),(fun l w=>∃b7:Nat,SubL [(5,(ptr b3 0)),(6,(ptr b4 0)),(8,(ptr b5 0)),(9,(I x7)),(10,(I x12)),(38,u3),(39,(I (List.length a2.2:Int))),(40,(I x7)),(52,(.bool x13)),(54,v4),(56,(.slice (some ⟨b7,0,none⟩) 1 1)),(59,v5),(60,(ptr b3 1)),(62,(I x7))] l∧Ctx [] w0 w [Ad (.slice (some ⟨b7,0,none⟩) 1 1) ([x12]:Ta),Ad v7 x6,Ad v6 x5,Ah b5 [v4,v5],Ad v4 x3,Ad v5 x4,Ah b4 [v6,v7],Ah b3 [(I a3.1),u4]]),(fun l w=>∃b7:Nat,SubL [(5,(ptr b3 0)),(6,(ptr b4 0)),(8,(ptr b5 0)),(9,(I x7)),(10,(I x12)),(38,u3),(39,(I (List.length a2.2:Int))),(40,(I x7)),(52,(.bool x13)),(54,v4),(56,(.slice (some ⟨b7,0,none⟩) 1 1)),(58,(ptr b5 1)),(61,u4),(62,(I x7))] l∧Ctx [] w0 w [Ad (.slice (some ⟨b7,0,none⟩) 1 1) ([x12]:Ta),Ad v7 x6,Ad v6 x5,Ah b5 [v4,v5],Ad v4 x3,Ad v5 x4,Ah b4 [v6,v7],Ah b3 [(I a3.1),u4]]),(fun l w=>SubL [(5,(ptr b3 0)),(6,(ptr b4 0)),(8,(ptr b5 0)),(9,(I x7)),(10,(I x12)),(38,u3),(39,(I (List.length a2.2:Int))),(40,(I x7)),(52,(.bool x13)),(54,v4),(55,(I x12)),(59,v5),(61,u4),(62,(I x7))] l∧Ctx [] w0 w [Ad v7 x6,Ad v6 x5,Ah b5 [v4,v5],Ad v4 x3,Ad v5 x4,Ah b4 [v6,v7],Ah b3 [(I a3.1),u4]]),(fun l w=>∃b8:Nat,∃o2:Nat,SubL [(5,(ptr b3 0)),(6,(ptr b4 0)),(8,(ptr b5 0)),(9,(I x7)),(10,(I x12)),(38,u3),(39,(I (List.length a2.2:Int))),(40,(I x7)),(52,(.bool x13)),(54,v4),(55,(I x12)),(58,(ptr b5 1)),(63,(ptr b8 o2))] l∧ROAt [] w0 b8 o2 x21∧Ctx [] w0 w [Ad v7 x6,Ad v6 x5,Ah b5 [v4,v5],Ad v4 x3,Ad v5 x4,Ah b4 [v6,v7],Ah b3 [(I a3.1),u4]]),(fun l w=>∃b7:Nat,SubL [(5,(ptr b3 0)),(6,(ptr b4 0)),(8,(ptr b5 0)),(9,(I x7)),(10,(I x12)),(38,u3),(39,(I (List.length a2.2:Int))),(40,(I x7)),(52,(.bool x13)),(53,(ptr b5 0)),(56,(.slice (some ⟨b7,0,none⟩) 1 1)),(59,v5),(61,u4),(62,(I x7))] l∧Ctx [] w0 w [Ad (.slice (some ⟨b7,0,none⟩) 1 1) ([x12]:Ta),Ad v7 x6,Ad v6 x5,Ah b5 [v4,v5],Ad v4 x3,Ad v5 x4,Ah b4 [v6,v7],Ah b3 [(I a3.1),u4]]),(fun l w=>∃b7:Nat,∃b8:Nat,∃o2:Nat,SubL [(5,(ptr b3 0)),(6,(ptr b4 0)),(8,(ptr b5 0)),(9,(I x7)),(10,(I x12)),(38,u3),(39,(I (List.length a2.2:Int))),(40,(I x7)),(52,(.bool x13)),(53,(ptr b5 0)),(56,(.slice (some ⟨b7,0,none⟩) 1 1)),(58,(ptr b5 1)),(63,(ptr b8 o2))] l∧ROAt [] w0 b8 o2 x21∧Ctx [] w0 w [Ad (.slice (some ⟨b7,0,none⟩) 1 1) ([x12]:Ta),Ad v7 x6,Ad v6 x5,Ah b5 [v4,v5],Ad v4 x3,Ad v5 x4,Ah b4 [v6,v7],Ah b3 [(I a3.1),u4]]),(fun l w=>∃b8:Nat,∃o2:Nat,SubL [(5,(ptr b3 0)),(6,(ptr b4 0)),(8,(ptr b5 0)),(9,(I x7)),(10,(I x12)),(38,u3),(39,(I (List.length a2.2:Int))),(40,(I x7)),(52,(.bool x13)),(53,(ptr b5 0)),(55,(I x12)),(59,v5),(63,(ptr b8 o2))] l∧ROAt [] w0 b8 o2 x21∧Ctx [] w0 w [Ad v7 x6,Ad v6 x5,Ah b5 [v4,v5],Ad v4 x3,Ad v5 x4,Ah b4 [v6,v7],Ah b3 [(I a3.1),u4]]),(fun l w=>∃b8:Nat,∃o2:Nat,SubL [(5,(ptr b3 0)),(6,(ptr b4 0)),(8,(ptr b5 0)),(9,(I x7)),(10,(I x12)),(38,u3),(39,(I (List.length a2.2:Int))),(40,(I x7)),(52,(.bool x13)),(53,(ptr b5 0)),(55,(I x12)),(58,(ptr b5 1)),(64,(I x21))] l∧ROAt [] w0 b8 o2 x21∧Ctx [] w0 w [Ad v7 x6,Ad v6 x5,Ah b5 [v4,v5],Ad v4 x3,Ad v5 x4,Ah b4 [v6,v7],Ah b3 [(I a3.1),u4]]),(fun l w=>∃b7:Nat,∃v17:Value,SubL [(5,(ptr b3 0)),(6,(ptr b4 0)),(8,(ptr b5 0)),(9,(I x7)),(10,(I x12)),(38,u3),(39,(I (List.length a2.2:Int))),(40,(I x7)),(52,(.bool x13)),(57,v17),(59,v5),(60,(ptr b3 1)),(62,(I x7))] l∧Ctx [] w0 w [Ad (.slice (some ⟨b7,0,none⟩) 1 1) ([x12]:Ta),Ad v7 x6,Ad v6 x5,Ah b5 [v4,v5],Ad v17 x20,Ad v5 x4,Ah b4 [v6,v7],Ah b3 [(I a3.1),u4]]),(fun l w=>∃b7:Nat,∃v17:Value,SubL [(5,(ptr b3 0)),(6,(ptr b4 0)),(8,(ptr b5 0)),(9,(I x7)),(10,(I x12)),(38,u3),(39,(I (List.length a2.2:Int))),(40,(I x7)),(52,(.bool x13)),(57,v17),(58,(ptr b5 1)),(61,u4),(62,(I x7))] l∧Ctx [] w0 w [Ad (.slice (some ⟨b7,0,none⟩) 1 1) ([x12]:Ta),Ad v7 x6,Ad v6 x5,Ah b5 [v4,v5],Ad v17 x20,Ad v5 x4,Ah b4 [v6,v7],Ah b3 [(I a3.1),u4]]),(fun l w=>∃b7:Nat,SubL [(5,(ptr b3 0)),(6,(ptr b4 0)),(8,(ptr b5 0)),(9,(I x7)),(10,(I x12)),(38,u3),(39,(I (List.length a2.2:Int))),(40,(I x7)),(52,(.bool x13)),(54,v4),(56,(.slice (some ⟨b7,0,none⟩) 1 1)),(59,v5),(61,u4),(62,(I x7))] l∧Ctx [] w0 w [Ad (.slice (some ⟨b7,0,none⟩) 1 1) ([x12]:Ta),Ad v7 x6,Ad v6 x5,Ah b5 [v4,v5],Ad v4 x3,Ad v5 x4,Ah b4 [v6,v7],Ah b3 [(I a3.1),u4]]),(fun l w=>∃b7:Nat,∃b8:Nat,∃o2:Nat,SubL [(5,(ptr b3 0)),(6,(ptr b4 0)),(8,(ptr b5 0)),(9,(I x7)),(10,(I x12)),(38,u3),(39,(I (List.length a2.2:Int))),(40,(I x7)),(52,(.bool x13)),(54,v4),(56,(.slice (some ⟨b7,0,none⟩) 1 1)),(58,(ptr b5 1)),(63,(ptr b8 o2))] l∧ROAt [] w0 b8 o2 x21∧Ctx [] w0 w [Ad (.slice (some ⟨b7,0,none⟩) 1 1) ([x12]:Ta),Ad v7 x6,Ad v6 x5,Ah b5 [v4,v5],Ad v4 x3,Ad v5 x4,Ah b4 [v6,v7],Ah b3 [(I a3.1),u4]]),(fun l w=>∃b8:Nat,∃o2:Nat,SubL [(5,(ptr b3 0)),(6,(ptr b4 0)),(8,(ptr b5 0)),(9,(I x7)),(10,(I x12)),(38,u3),(39,(I (List.length a2.2:Int))),(40,(I x7)),(52,(.bool x13)),(54,v4),(55,(I x12)),(59,v5),(63,(ptr b8 o2))] l∧ROAt [] w0 b8 o2 x21∧Ctx [] w0 w [Ad v7 x6,Ad v6 x5,Ah b5 [v4,v5],Ad v4 x3,Ad v5 x4,Ah b4 [v6,v7],Ah b3 [(I a3.1),u4]]),(fun l w=>∃b8:Nat,∃o2:Nat,SubL [(5,(ptr b3 0)),(6,(ptr b4 0)),(8,(ptr b5 0)),(9,(I x7)),(10,(I x12)),(38,u3),(39,(I (List.length a2.2:Int))),(40,(I x7)),(52,(.bool x13)),(54,v4),(55,(I x12)),(58,(ptr b5 1)),(64,(I x21))] l∧ROAt [] w0 b8 o2 x21∧Ctx [] w0 w [Ad v7 x6,Ad v6 x5,Ah b5 [v4,v5],Ad v4 x3,Ad v5 x4,Ah b4 [v6,v7],Ah b3 [(I a3.1),u4]]),(fun l w=>∃b7:Nat,∃b8:Nat,∃o2:Nat,SubL [(5,(ptr b3 0)),(6,(ptr b4 0)),(8,(ptr b5 0)),(9,(I x7)),(10,(I x12)),(38,u3),(39,(I (List.length a2.2:Int))),(40,(I x7)),(52,(.bool x13)),(53,(ptr b5 0)),(56,(.slice (some ⟨b7,0,none⟩) 1 1)),(59,v5),(63,(ptr b8 o2))] l∧ROAt [] w0 b8 o2 x21∧Ctx [] w0 w [Ad (.slice (some ⟨b7,0,none⟩) 1 1) ([x12]:Ta),Ad v7 x6,Ad v6 x5,Ah b5 [v4,v5],Ad v4 x3,Ad v5 x4,Ah b4 [v6,v7],Ah b3 [(I a3.1),u4]]),(fun l w=>∃b7:Nat,∃b8:Nat,∃o2:Nat,SubL [(5,(ptr b3 0)),(6,(ptr b4 0)),(8,(ptr b5 0)),(9,(I x7)),(10,(I x12)),(38,u3),(39,(I (List.length a2.2:Int))),(40,(I x7)),(52,(.bool x13)),(53,(ptr b5 0)),(56,(.slice (some ⟨b7,0,none⟩) 1 1)),(58,(ptr b5 1)),(64,(I x21))] l∧ROAt [] w0 b8 o2 x21∧Ctx [] w0 w [Ad (.slice (some ⟨b7,0,none⟩) 1 1) ([x12]:Ta),Ad v7 x6,Ad v6 x5,Ah b5 [v4,v5],Ad v4 x3,Ad v5 x4,Ah b4 [v6,v7],Ah b3 [(I a3.1),u4]]),(fun l w=>∃b8:Nat,∃o2:Nat,SubL [(5,(ptr b3 0)),(6,(ptr b4 0)),(8,(ptr b5 0)),(9,(I x7)),(10,(I x12)),(38,u3),(39,(I (List.length a2.2:Int))),(40,(I x7)),(52,(.bool x13)),(53,(ptr b5 0)),(55,(I x12)),(59,v5),(64,(I x21))] l∧ROAt [] w0 b8 o2 x21∧Ctx [] w0 w [Ad v7 x6,Ad v6 x5,Ah b5 [v4,v5],Ad v4 x3,Ad v5 x4,Ah b4 [v6,v7],Ah b3 [(I a3.1),u4]]),(fun l w=>∃b8:Nat,∃o2:Nat,∃b9:Nat,SubL [(5,(ptr b3 0)),(6,(ptr b4 0)),(8,(ptr b5 0)),(9,(I x7)),(10,(I x12)),(38,u3),(39,(I (List.length a2.2:Int))),(40,(I x7)),(52,(.bool x13)),(53,(ptr b5 0)),(55,(I x12)),(58,(ptr b5 1)),(65,(.slice (some ⟨b9,0,none⟩) 1 1))] l∧ROAt [] w0 b8 o2 x21∧Ctx [] w0 w [Ad (.slice (some ⟨b9,0,none⟩) 1 1) ([x21]:Ta),Ad v7 x6,Ad v6 x5,Ah b5 [v4,v5],Ad v4 x3,Ad v5 x4,Ah b4 [v6,v7],Ah b3 [(I a3.1),u4]]),(fun l w=>∃b7:Nat,∃v17:Value,SubL [(5,(ptr b3 0)),(6,(ptr b4 0)),(8,(ptr b5 0)),(9,(I x7)),(10,(I x12)),(38,u3),(39,(I (List.length a2.2:Int))),(40,(I x7)),(52,(.bool x13)),(57,v17),(59,v5),(61,u4),(62,(I x7))] l∧Ctx [] w0 w [Ad (.slice (some ⟨b7,0,none⟩) 1 1) ([x12]:Ta),Ad v7 x6,Ad v6 x5,Ah b5 [v4,v5],Ad v17 x20,Ad v5 x4,Ah b4 [v6,v7],Ah b3 [(I a3.1),u4]]),(fun l w=>∃b7:Nat,∃v17:Value,SubL [(5,(ptr b3 0)),(6,(ptr b4 0)),(8,(ptr b5 0)),(9,(I x7)),(10,(I x12)),(38,u3),(39,(I (List.length a2.2:Int))),(40,(I x7)),(52,(.bool x13)),(57,v17),(59,v5),(60,(ptr b3 1)),(62,(I x7)),(67,(ptr b5 0))] l∧Ctx [] w0 w [Ad (.slice (some ⟨b7,0,none⟩) 1 1) ([x12]:Ta),Ad v7 x6,Ad v6 x5,Ah b5 [v4,v5],Ad v17 x20,Ad v5 x4,Ah b4 [v6,v7],Ah b3 [(I a3.1),u4]]),(fun l w=>∃b7:Nat,∃v17:Value,∃b8:Nat,∃o2:Nat,SubL [(5,(ptr b3 0)),(6,(ptr b4 0)),(8,(ptr b5 0)),(9,(I x7)),(10,(I x12)),(38,u3),(39,(I (List.length a2.2:Int))),(40,(I x7)),(52,(.bool x13)),(57,v17),(58,(ptr b5 1)),(63,(ptr b8 o2))] l∧ROAt [] w0 b8 o2 x21∧Ctx [] w0 w [Ad (.slice (some ⟨b7,0,none⟩) 1 1) ([x12]:Ta),Ad v7 x6,Ad v6 x5,Ah b5 [v4,v5],Ad v17 x20,Ad v5 x4,Ah b4 [v6,v7],Ah b3 [(I a3.1),u4]]),(fun l w=>∃b7:Nat,∃b8:Nat,∃o2:Nat,SubL [(5,(ptr b3 0)),(6,(ptr b4 0)),(8,(ptr b5 0)),(9,(I x7)),(10,(I x12)),(38,u3),(39,(I (List.length a2.2:Int))),(40,(I x7)),(52,(.bool x13)),(54,v4),(56,(.slice (some ⟨b7,0,none⟩) 1 1)),(59,v5),(63,(ptr b8 o2))] l∧ROAt [] w0 b8 o2 x21∧Ctx [] w0 w [Ad (.slice (some ⟨b7,0,none⟩) 1 1) ([x12]:Ta),Ad v7 x6,Ad v6 x5,Ah b5 [v4,v5],Ad v4 x3,Ad v5 x4,Ah b4 [v6,v7],Ah b3 [(I a3.1),u4]]),(fun l w=>∃b7:Nat,∃b8:Nat,∃o2:Nat,SubL [(5,(ptr b3 0)),(6,(ptr b4 0)),(8,(ptr b5 0)),(9,(I x7)),(10,(I x12)),(38,u3),(39,(I (List.length a2.2:Int))),(40,(I x7)),(52,(.bool x13)),(54,v4),(56,(.slice (some ⟨b7,0,none⟩) 1 1)),(58,(ptr b5 1)),(64,(I x21))] l∧ROAt [] w0 b8 o2 x21∧Ctx [] w0 w [Ad (.slice (some ⟨b7,0,none⟩) 1 1) ([x12]:Ta),Ad v7 x6,Ad v6 x5,Ah b5 [v4,v5],Ad v4 x3,Ad v5 x4,Ah b4 [v6,v7],Ah b3 [(I a3.1),u4]]),(fun l w=>∃b8:Nat,∃o2:Nat,SubL [(5,(ptr b3 0)),(6,(ptr b4 0)),(8,(ptr b5 0)),(9,(I x7)),(10,(I x12)),(38,u3),(39,(I (List.length a2.2:Int))),(40,(I x7)),(52,(.bool x13)),(54,v4),(55,(I x12)),(59,v5),(64,(I x21))] l∧ROAt [] w0 b8 o2 x21∧Ctx [] w0 w [Ad v7 x6,Ad v6 x5,Ah b5 [v4,v5],Ad v4 x3,Ad v5 x4,Ah b4 [v6,v7],Ah b3 [(I a3.1),u4]]),(fun l w=>∃b8:Nat,∃o2:Nat,∃b9:Nat,SubL [(5,(ptr b3 0)),(6,(ptr b4 0)),(8,(ptr b5 0)),(9,(I x7)),(10,(I x12)),(38,u3),(39,(I (List.length a2.2:Int))),(40,(I x7)),(52,(.bool x13)),(54,v4),(55,(I x12)),(58,(ptr b5 1)),(65,(.slice (some ⟨b9,0,none⟩) 1 1))] l∧ROAt [] w0 b8 o2 x21∧Ctx [] w0 w [Ad (.slice (some ⟨b9,0,none⟩) 1 1) ([x21]:Ta),Ad v7 x6,Ad v6 x5,Ah b5 [v4,v5],Ad v4 x3,Ad v5 x4,Ah b4 [v6,v7],Ah b3 [(I a3.1),u4]]),(fun l w=>∃b7:Nat,∃b8:Nat,∃o2:Nat,SubL [(5,(ptr b3 0)),(6,(ptr b4 0)),(8,(ptr b5 0)),(9,(I x7)),(10,(I x12)),(38,u3),(39,(I (List.length a2.2:Int))),(40,(I x7)),(52,(.bool x13)),(53,(ptr b5 0)),(56,(.slice (some ⟨b7,0,none⟩) 1 1)),(59,v5),(64,(I x21))] l∧ROAt [] w0 b8 o2 x21∧Ctx [] w0 w [Ad (.slice (some ⟨b7,0,none⟩) 1 1) ([x12]:Ta),Ad v7 x6,Ad v6 x5,Ah b5 [v4,v5],Ad v4 x3,Ad v5 x4,Ah b4 [v6,v7],Ah b3 [(I a3.1),u4]]),(fun l w=>∃b7:Nat,∃b8:Nat,∃o2:Nat,∃b9:Nat,SubL [(5,(ptr b3 0)),(6,(ptr b4 0)),(8,(ptr b5 0)),(9,(I x7)),(10,(I x12)),(38,u3),(39,(I (List.length a2.2:Int))),(40,(I x7)),(52,(.bool x13)),(53,(ptr b5 0)),(56,(.slice (some ⟨b7,0,none⟩) 1 1)),(58,(ptr b5 1)),(65,(.slice (some ⟨b9,0,none⟩) 1 1))] l∧ROAt [] w0 b8 o2 x21∧Ctx [] w0 w [Ad (.slice (some ⟨b9,0,none⟩) 1 1) ([x21]:Ta),Ad (.slice (some ⟨b7,0,none⟩) 1 1) ([x12]:Ta),Ad v7 x6,Ad v6 x5,Ah b5 [v4,v5],Ad v4 x3,Ad v5 x4,Ah b4 [v6,v7],Ah b3 [(I a3.1),u4]]),(fun l w=>∃b8:Nat,∃o2:Nat,∃b9:Nat,SubL [(5,(ptr b3 0)),(6,(ptr b4 0)),(8,(ptr b5 0)),(9,(I x7)),(10,(I x12)),(38,u3),(39,(I (List.length a2.2:Int))),(40,(I x7)),(52,(.bool x13)),(53,(ptr b5 0)),(55,(I x12)),(59,v5),(65,(.slice (some ⟨b9,0,none⟩) 1 1))] l∧ROAt [] w0 b8 o2 x21∧Ctx [] w0 w [Ad (.slice (some ⟨b9,0,none⟩) 1 1) ([x21]:Ta),Ad v7 x6,Ad v6 x5,Ah b5 [v4,v5],Ad v4 x3,Ad v5 x4,Ah b4 [v6,v7],Ah b3 [(I a3.1),u4]]),(fun l w=>∃b7:Nat,∃v17:Value,∃b8:Nat,∃o2:Nat,SubL [(5,(ptr b3 0)),(6,(ptr b4 0)),(8,(ptr b5 0)),(9,(I x7)),(10,(I x12)),(38,u3),(39,(I (List.length a2.2:Int))),(40,(I x7)),(52,(.bool x13)),(57,v17),(59,v5),(63,(ptr b8 o2))] l∧ROAt [] w0 b8 o2 x21∧Ctx [] w0 w [Ad (.slice (some ⟨b7,0,none⟩) 1 1) ([x12]:Ta),Ad v7 x6,Ad v6 x5,Ah b5 [v4,v5],Ad v17 x20,Ad v5 x4,Ah b4 [v6,v7],Ah b3 [(I a3.1),u4]]),(fun l w=>∃b7:Nat,∃v17:Value,SubL [(5,(ptr b3 0)),(6,(ptr b4 0)),(8,(ptr b5 0)),(9,(I x7)),(10,(I x12)),(38,u3),(39,(I (List.length a2.2:Int))),(40,(I x7)),(52,(.bool x13)),(57,v17),(59,v5),(61,u4),(62,(I x7)),(67,(ptr b5 0))] l∧Ctx [] w0 w [Ad (.slice (some ⟨b7,0,none⟩) 1 1) ([x12]:Ta),Ad v7 x6,Ad v6 x5,Ah b5 [v4,v5],Ad v17 x20,Ad v5 x4,Ah b4 [v6,v7],Ah b3 [(I a3.1),u4]]),(fun l w=>∃b7:Nat,∃v17:Value,∃b8:Nat,∃o2:Nat,SubL [(5,(ptr b3 0)),(6,(ptr b4 0)),(8,(ptr b5 0)),(9,(I x7)),(10,(I x12)),(38,u3),(39,(I (List.length a2.2:Int))),(40,(I x7)),(52,(.bool x13)),(57,v17),(58,(ptr b5 1)),(64,(I x21))] l∧ROAt [] w0 b8 o2 x21∧Ctx [] w0 w [Ad (.slice (some ⟨b7,0,none⟩) 1 1) ([x12]:Ta),Ad v7 x6,Ad v6 x5,Ah b5 [v4,v5],Ad v17 x20,Ad v5 x4,Ah b4 [v6,v7],Ah b3 [(I a3.1),u4]]),(fun l w=>∃b7:Nat,∃b8:Nat,∃o2:Nat,SubL [(5,(ptr b3 0)),(6,(ptr b4 0)),(8,(ptr b5 0)),(9,(I x7)),(10,(I x12)),(38,u3),(39,(I (List.length a2.2:Int))),(40,(I x7)),(52,(.bool x13)),(54,v4),(56,(.slice (some ⟨b7,0,none⟩) 1 1)),(59,v5),(64,(I x21))] l∧ROAt [] w0 b8 o2 x21∧Ctx [] w0 w [Ad (.slice (some ⟨b7,0,none⟩) 1 1) ([x12]:Ta),Ad v7 x6,Ad v6 x5,Ah b5 [v4,v5],Ad v4 x3,Ad v5 x4,Ah b4 [v6,v7],Ah b3 [(I a3.1),u4]]),(fun l w=>∃b7:Nat,∃b8:Nat,∃o2:Nat,∃b9:Nat,SubL [(5,(ptr b3 0)),(6,(ptr b4 0)),(8,(ptr b5 0)),(9,(I x7)),(10,(I x12)),(38,u3),(39,(I (List.length a2.2:Int))),(40,(I x7)),(52,(.bool x13)),(54,v4),(56,(.slice (some ⟨b7,0,none⟩) 1 1)),(58,(ptr b5 1)),(65,(.slice (some ⟨b9,0,none⟩) 1 1))] l∧ROAt [] w0 b8 o2 x21∧Ctx [] w0 w [Ad (.slice (some ⟨b9,0,none⟩) 1 1) ([x21]:Ta),Ad (.slice (some ⟨b7,0,none⟩) 1 1) ([x12]:Ta),Ad v7 x6,Ad v6 x5,Ah b5 [v4,v5],Ad v4 x3,Ad v5 x4,Ah b4 [v6,v7],Ah b3 [(I a3.1),u4]]),(fun l w=>∃b8:Nat,∃o2:Nat,∃b9:Nat,SubL [(5,(ptr b3 0)),(6,(ptr b4 0)),(8,(ptr b5 0)),(9,(I x7)),(10,(I x12)),(38,u3),(39,(I (List.length a2.2:Int))),(40,(I x7)),(52,(.bool x13)),(54,v4),(55,(I x12)),(59,v5),(65,(.slice (some ⟨b9,0,none⟩) 1 1))] l∧ROAt [] w0 b8 o2 x21∧Ctx [] w0 w [Ad (.slice (some ⟨b9,0,none⟩) 1 1) ([x21]:Ta),Ad v7 x6,Ad v6 x5,Ah b5 [v4,v5],Ad v4 x3,Ad v5 x4,Ah b4 [v6,v7],Ah b3 [(I a3.1),u4]]),(fun l w=>∃b7:Nat,∃b8:Nat,∃o2:Nat,∃b9:Nat,SubL [(5,(ptr b3 0)),(6,(ptr b4 0)),(8,(ptr b5 0)),(9,(I x7)),(10,(I x12)),(38,u3),(39,(I (List.length a2.2:Int))),(40,(I x7)),(52,(.bool x13)),(53,(ptr b5 0)),(56,(.slice (some ⟨b7,0,none⟩) 1 1)),(59,v5),(65,(.slice (some ⟨b9,0,none⟩) 1 1))] l∧ROAt [] w0 b8 o2 x21∧Ctx [] w0 w [Ad (.slice (some ⟨b9,0,none⟩) 1 1) ([x21]:Ta),Ad (.slice (some ⟨b7,0,none⟩) 1 1) ([x12]:Ta),Ad v7 x6,Ad v6 x5,Ah b5 [v4,v5],Ad v4 x3,Ad v5 x4,Ah b4 [v6,v7],Ah b3 [(I a3.1),u4]]),(fun l w=>∃b7:Nat,∃v17:Value,∃b8:Nat,∃o2:Nat,SubL [(5,(ptr b3 0)),(6,(ptr b4 0)),(8,(ptr b5 0)),(9,(I x7)),(10,(I x12)),(38,u3),(39,(I (List.length a2.2:Int))),(40,(I x7)),(52,(.bool x13)),(57,v17),(59,v5),(64,(I x21))] l∧ROAt [] w0 b8 o2 x21∧Ctx [] w0 w [Ad (.slice (some ⟨b7,0,none⟩) 1 1) ([x12]:Ta),Ad v7 x6,Ad v6 x5,Ah b5 [v4,v5],Ad v17 x20,Ad v5 x4,Ah b4 [v6,v7],Ah b3 [(I a3.1),u4]]),(fun l w=>∃b7:Nat,∃v17:Value,∃b8:Nat,∃o2:Nat,SubL [(5,(ptr b3 0)),(6,(ptr b4 0)),(8,(ptr b5 0)),(9,(I x7)),(10,(I x12)),(38,u3),(39,(I (List.length a2.2:Int))),(40,(I x7)),(52,(.bool x13)),(57,v17),(59,v5),(63,(ptr b8 o2)),(67,(ptr b5 0))] l∧ROAt [] w0 b8 o2 x21∧Ctx [] w0 w [Ad (.slice (some ⟨b7,0,none⟩) 1 1) ([x12]:Ta),Ad v7 x6,Ad v6 x5,Ah b5 [v4,v5],Ad v17 x20,Ad v5 x4,Ah b4 [v6,v7],Ah b3 [(I a3.1),u4]]),(fun l w=>∃b7:Nat,∃v17:Value,∃b8:Nat,∃o2:Nat,∃b9:Nat,SubL [(5,(ptr b3 0)),(6,(ptr b4 0)),(8,(ptr b5 0)),(9,(I x7)),(10,(I x12)),(38,u3),(39,(I (List.length a2.2:Int))),(40,(I x7)),(52,(.bool x13)),(57,v17),(58,(ptr b5 1)),(65,(.slice (some ⟨b9,0,none⟩) 1 1))] l∧ROAt [] w0 b8 o2 x21∧Ctx [] w0 w [Ad (.slice (some ⟨b9,0,none⟩) 1 1) ([x21]:Ta),Ad (.slice (some ⟨b7,0,none⟩) 1 1) ([x12]:Ta),Ad v7 x6,Ad v6 x5,Ah b5 [v4,v5],Ad v17 x20,Ad v5 x4,Ah b4 [v6,v7],Ah b3 [(I a3.1),u4]]),(fun l w=>∃b7:Nat,∃b8:Nat,∃o2:Nat,∃b9:Nat,SubL [(5,(ptr b3 0)),(6,(ptr b4 0)),(8,(ptr b5 0)),(9,(I x7)),(10,(I x12)),(38,u3),(39,(I (List.length a2.2:Int))),(40,(I x7)),(52,(.bool x13)),(54,v4),(56,(.slice (some ⟨b7,0,none⟩) 1 1)),(59,v5),(65,(.slice (some ⟨b9,0,none⟩) 1 1))] l∧ROAt [] w0 b8 o2 x21∧Ctx [] w0 w [Ad (.slice (some ⟨b9,0,none⟩) 1 1) ([x21]:Ta),Ad (.slice (some ⟨b7,0,none⟩) 1 1) ([x12]:Ta),Ad v7 x6,Ad v6 x5,Ah b5 [v4,v5],Ad v4 x3,Ad v5 x4,Ah b4 [v6,v7],Ah b3 [(I a3.1),u4]]),(fun l w=>∃b7:Nat,∃v17:Value,∃b8:Nat,∃o2:Nat,∃b9:Nat,SubL [(5,(ptr b3 0)),(6,(ptr b4 0)),(8,(ptr b5 0)),(9,(I x7)),(10,(I x12)),(38,u3),(39,(I (List.length a2.2:Int))),(40,(I x7)),(52,(.bool x13)),(57,v17),(59,v5),(65,(.slice (some ⟨b9,0,none⟩) 1 1))] l∧ROAt [] w0 b8 o2 x21∧Ctx [] w0 w [Ad (.slice (some ⟨b9,0,none⟩) 1 1) ([x21]:Ta),Ad (.slice (some ⟨b7,0,none⟩) 1 1) ([x12]:Ta),Ad v7 x6,Ad v6 x5,Ah b5 [v4,v5],Ad v17 x20,Ad v5 x4,Ah b4 [v6,v7],Ah b3 [(I a3.1),u4]]),(fun l w=>∃b7:Nat,∃v17:Value,∃b8:Nat,∃o2:Nat,SubL [(5,(ptr b3 0)),(6,(ptr b4 0)),(8,(ptr b5 0)),(9,(I x7)),(10,(I x12)),(38,u3),(39,(I (List.length a2.2:Int))),(40,(I x7)),(52,(.bool x13)),(57,v17),(59,v5),(64,(I x21)),(67,(ptr b5 0))] l∧ROAt [] w0 b8 o2 x21∧Ctx [] w0 w [Ad (.slice (some ⟨b7,0,none⟩) 1 1) ([x12]:Ta),Ad v7 x6,Ad v6 x5,Ah b5 [v4,v5],Ad v17 x20,Ad v5 x4,Ah b4 [v6,v7],Ah b3 [(I a3.1),u4]]),(fun l w=>∃b7:Nat,∃v17:Value,∃b8:Nat,∃o2:Nat,∃b9:Nat,∃v19:Value,SubL [(5,(ptr b3 0)),(6,(ptr b4 0)),(8,(ptr b5 0)),(9,(I x7)),(10,(I x12)),(38,u3),(39,(I (List.length a2.2:Int))),(40,(I x7)),(52,(.bool x13)),(57,v17),(66,v19)] l∧ROAt [] w0 b8 o2 x21∧Ctx [] w0 w [Ad (.slice (some ⟨b9,0,none⟩) 1 1) ([x21]:Ta),Ad (.slice (some ⟨b7,0,none⟩) 1 1) ([x12]:Ta),Ad v7 x6,Ad v6 x5,Ah b5 [v4,v5],Ad v17 x20,Ad v19 x22,Ah b4 [v6,v7],Ah b3 [(I a3.1),u4]]),(fun l w=>∃b7:Nat,∃v17:Value,∃b8:Nat,∃o2:Nat,∃b9:Nat,SubL [(5,(ptr b3 0)),(6,(ptr b4 0)),(8,(ptr b5 0)),(9,(I x7)),(10,(I x12)),(38,u3),(39,(I (List.length a2.2:Int))),(40,(I x7)),(52,(.bool x13)),(57,v17),(59,v5),(65,(.slice (some ⟨b9,0,none⟩) 1 1)),(67,(ptr b5 0))] l∧ROAt [] w0 b8 o2 x21∧Ctx [] w0 w [Ad (.slice (some ⟨b9,0,none⟩) 1 1) ([x21]:Ta),Ad (.slice (some ⟨b7,0,none⟩) 1 1) ([x12]:Ta),Ad v7 x6,Ad v6 x5,Ah b5 [v4,v5],Ad v17 x20,Ad v5 x4,Ah b4 [v6,v7],Ah b3 [(I a3.1),u4]]),(fun l w=>∃b7:Nat,∃v17:Value,∃b8:Nat,∃o2:Nat,∃b9:Nat,∃v19:Value,SubL [(5,(ptr b3 0)),(6,(ptr b4 0)),(8,(ptr b5 0)),(9,(I x7)),(10,(I x12)),(38,u3),(39,(I (List.length a2.2:Int))),(40,(I x7)),(52,(.bool x13)),(57,v17),(66,v19),(67,(ptr b5 0))] l∧ROAt [] w0 b8 o2 x21∧Ctx [] w0 w [Ad (.slice (some ⟨b9,0,none⟩) 1 1) ([x21]:Ta),Ad (.slice (some ⟨b7,0,none⟩) 1 1) ([x12]:Ta),Ad v7 x6,Ad v6 x5,Ah b5 [v4,v5],Ad v17 x20,Ad v19 x22,Ah b4 [v6,v7],Ah b3 [(I a3.1),u4]])] [(677,10),(679,9),(685,9),(741,9),(933,9),(687,8),(743,8),(935,8),(749,8),(941,8),(997,8),(1957,8),(703,7),(751,7),(943,7),(999,7),(1959,7),(1005,7),(1965,7),(2021,7),(4005,7),(767,6),(959,6),(1007,6),(1967,6),(2023,6),(4007,6),(2029,6),(4013,6),(4069,6),(8101,6),(1023,5),(17151,5),(1983,5),(2031,5),(4015,5),(4071,5),(8103,5),(4077,5),(8109,5),(8165,5),(2047,4),(17407,4),(4031,4),(4079,4),(8111,4),(8167,4),(8173,4),(4095,3),(18431,3),(8127,3),(8175,3),(8191,2),(20479,2),(16383,1),(24575,1),(32767,0)] [(0,1,1),(0,3,2),(0,6,3),(0,8,4),(1,3,5),(1,6,6),(1,8,7),(2,1,5),(2,6,8),(2,8,9),(3,1,6),(3,3,8),(3,8,10),(4,1,7),(4,3,9),(4,6,10),(4,10,11),(5,4,12),(5,6,13),(5,8,14),(6,3,13),(6,8,15),(7,3,14),(7,6,15),(7,10,16),(8,1,13),(8,8,17),(9,1,14),(9,6,17),(9,10,18),(10,1,15),(10,3,17),(10,10,19),(11,1,16),(11,3,18),(11,6,19),(11,11,20),(12,6,21),(12,8,22),(13,4,21),(13,8,23),(14,4,22),(14,6,23),(14,10,24),(15,3,23),(15,10,25),(16,3,24),(16,6,25),(16,11,26),(17,1,23),(17,10,27),(18,1,24),(18,6,27),(18,11,28),(19,1,25),(19,3,27),(19,11,29),(20,1,26),(20,3,28),(20,6,29),(20,12,30),(21,8,31),(21,14,32),(22,6,31),(22,10,33),(23,4,31),(23,10,34),(24,4,33),(24,6,34),(24,11,35),(25,3,34),(25,11,36),(26,3,35),(26,6,36),(26,12,37),(27,1,34),(27,11,38),(28,1,35),(28,6,38),(28,12,39),(29,1,36),(29,3,38),(29,12,40),(30,1,37),(30,3,39),(30,6,40),(31,10,41),(31,14,42),(32,8,42),(33,6,41),(33,11,43),(34,4,41),(34,11,44),(35,4,43),(35,6,44),(35,12,45),(36,3,44),(36,12,46),(37,3,45),(37,6,46),(38,1,44),(38,12,47),(39,1,45),(39,6,47),(40,1,46),(40,3,47),(41,11,48),(41,14,49),(42,10,49),(43,6,48),(43,12,50),(44,4,48),(44,12,51),(45,4,50),(45,6,51),(46,3,51),(47,1,51),(48,12,52),(48,14,53),(49,11,53),(50,6,52),(51,4,52),(52,13,54),(52,14,55),(53,12,55),(54,14,56),(55,13,56)] 0 56 3 677 10 32767 z z z z z ?_ ?_ ?_
      ·exact ⟨⟨z,z,z,z,z,z,z,z,z,z,z,z,z,z,A6⟩,hC21⟩
      ·refine ⟨⟨_,_,z,z,?_⟩,?_⟩
       ·rintro _ wD ⟨hsD,hCD⟩
        refine ⟨_,z,WL.sub ?_ hsD⟩
        exact Al hCD 2 z z Au z z<|Aa<|⟨⟨z,z,z,z,z,z,z,z,z,z,z,z,z,z,A6⟩,hCD⟩
       refine ⟨⟨_,_,z,z,?_⟩,?_⟩
       ·rintro _ wD ⟨hsD,hCD⟩
        refine ⟨_,z,WL.sub ?_ hsD⟩
        refine Ar (vs:=[(I x12)]) hCD Ag ty3 z z z z (fac z<|fa0) z z (fun b7 w18 hC22 hB15=>?_)
        have hC23:=hC22.row0 (α:=Int)
        have hC24:=hC23.triv (Bt (x12))
        have hC25:=hC24.row1
        have hC26:=hC25.front 1 z
        dsimp only [List.eraseIdx,List.cons_append,List.nil_append,List.append_nil] at hC26
        have hC27:Ctx [] w0 w18 (Ad (.slice (some ⟨b7,0,none⟩) 1 1) ([x12]:List Int)::[Ad v7 x6,Ad v6 x5,Ah b5 [v4,v5],Ad v4 x3,Ad v5 x4,Ah b4 [v6,v7],Ah b3 [(I a3.1),u4]]):=hC26.rowOwn (by simp [maxLen])
        exact Aa<|⟨b7,⟨z,z,z,z,z,z,z,z,z,z,z,z,z,z,A6⟩,hC27⟩
       refine ⟨⟨_,_,z,z,?_⟩,?_⟩
       ·rintro _ wD ⟨hsD,hCD⟩
        refine ⟨_,z,WL.sub ?_ hsD⟩
        exact Al hCD 2 z z Au z z<|Aa<|⟨⟨z,z,z,z,z,z,z,z,z,z,z,z,z,z,A6⟩,hCD⟩
       refine ⟨⟨_,_,z,z,?_⟩,?_⟩
       ·rintro _ wD ⟨hsD,hCD⟩
        refine ⟨_,z,WL.sub ?_ hsD⟩
        exact Al hCD 6 z z Au z z<|Aa<|⟨⟨z,z,z,z,z,z,z,z,z,z,z,z,z,z,A6⟩,hCD⟩
       refine ⟨⟨_,_,z,z,?_⟩,?_⟩
       ·rintro _ wD ⟨hsD,hCD⟩
        refine ⟨_,z,WL.sub ?_ hsD⟩
        refine Ar (vs:=[(I x12)]) hCD Ag ty3 z z z z (fac z<|fa0) z z (fun b7 w18 hC22 hB15=>?_)
        have hC23:=hC22.row0 (α:=Int)
        have hC24:=hC23.triv (Bt (x12))
        have hC25:=hC24.row1
        have hC26:=hC25.front 1 z
        dsimp only [List.eraseIdx,List.cons_append,List.nil_append,List.append_nil] at hC26
        have hC27:Ctx [] w0 w18 (Ad (.slice (some ⟨b7,0,none⟩) 1 1) ([x12]:List Int)::[Ad v7 x6,Ad v6 x5,Ah b5 [v4,v5],Ad v4 x3,Ad v5 x4,Ah b4 [v6,v7],Ah b3 [(I a3.1),u4]]):=hC26.rowOwn (by simp [maxLen])
        exact Aa<|⟨b7,⟨z,z,z,z,z,z,z,z,z,z,z,z,z,z,A6⟩,hC27⟩
       refine ⟨⟨_,_,z,z,?_⟩,?_⟩
       ·rintro _ wD ⟨hsD,hCD⟩
        refine ⟨_,z,WL.sub ?_ hsD⟩
        exact Al hCD 2 z z Au z z<|Aa<|⟨⟨z,z,z,z,z,z,z,z,z,z,z,z,z,z,A6⟩,hCD⟩
       refine ⟨⟨_,_,z,z,?_⟩,?_⟩
       ·rintro _ wD ⟨hsD,hCD⟩
        refine ⟨_,z,WL.sub ?_ hsD⟩
        exact Al hCD 6 z z Au z z<|Aa<|⟨⟨z,z,z,z,z,z,z,z,z,z,z,z,z,z,A6⟩,hCD⟩
       refine ⟨⟨_,_,z,z,?_⟩,?_⟩
       ·rintro _ wD ⟨b7,hsD,hCD⟩
        refine ⟨_,z,WL.sub ?_ hsD⟩
        exact Al hCD 3 z z Au z z<|Aa<|⟨b7,⟨z,z,z,z,z,z,z,z,z,z,z,z,z,z,A6⟩,hCD⟩
       refine ⟨⟨_,_,z,z,?_⟩,?_⟩
       ·rintro _ wD ⟨b7,hsD,hCD⟩
        refine ⟨_,z,WL.sub ?_ hsD⟩
        exact Al hCD 3 z z Au z z<|Aa<|⟨b7,⟨z,z,z,z,z,z,z,z,z,z,z,z,z,z,A6⟩,hCD⟩
       refine ⟨⟨_,_,z,z,?_⟩,?_⟩
       ·rintro _ wD ⟨b7,hsD,hCD⟩
        refine ⟨_,z,WL.sub ?_ hsD⟩
        exact Al hCD 7 z z Au z z<|Aa<|⟨b7,⟨z,z,z,z,z,z,z,z,z,z,z,z,z,z,A6⟩,hCD⟩
       refine ⟨⟨_,_,z,z,?_⟩,?_⟩
       ·rintro _ wD ⟨hsD,hCD⟩
        refine ⟨_,z,WL.sub ?_ hsD⟩
        exact Al hCD 2 z z Au z z<|Aa<|⟨⟨z,z,z,z,z,z,z,z,z,z,z,z,z,z,A6⟩,hCD⟩
       refine ⟨⟨_,_,z,z,?_⟩,?_⟩
       ·rintro _ wD ⟨hsD,hCD⟩
        refine ⟨_,z,WL.sub ?_ hsD⟩
        refine Ar (vs:=[(I x12)]) hCD Ag ty3 z z z z (fac z<|fa0) z z (fun b7 w18 hC22 hB15=>?_)
        have hC23:=hC22.row0 (α:=Int)
        have hC24:=hC23.triv (Bt (x12))
        have hC25:=hC24.row1
        have hC26:=hC25.front 1 z
        dsimp only [List.eraseIdx,List.cons_append,List.nil_append,List.append_nil] at hC26
        have hC27:Ctx [] w0 w18 (Ad (.slice (some ⟨b7,0,none⟩) 1 1) ([x12]:List Int)::[Ad v7 x6,Ad v6 x5,Ah b5 [v4,v5],Ad v4 x3,Ad v5 x4,Ah b4 [v6,v7],Ah b3 [(I a3.1),u4]]):=hC26.rowOwn (by simp [maxLen])
        exact Aa<|⟨b7,⟨z,z,z,z,z,z,z,z,z,z,z,z,z,z,A6⟩,hC27⟩
       refine ⟨⟨_,_,z,z,?_⟩,?_⟩
       ·rintro _ wD ⟨hsD,hCD⟩
        refine ⟨_,z,WL.sub ?_ hsD⟩
        exact Al hCD 6 z z Au z z<|Aa<|⟨⟨z,z,z,z,z,z,z,z,z,z,z,z,z,z,A6⟩,hCD⟩
       refine ⟨⟨_,_,z,z,?_⟩,?_⟩
       ·rintro _ wD ⟨hsD,hCD⟩
        refine ⟨_,z,WL.sub ?_ hsD⟩
        exact Al hCD 2 z z Au z z<|Aa<|⟨⟨z,z,z,z,z,z,z,z,z,z,z,z,z,z,A6⟩,hCD⟩
       refine ⟨⟨_,_,z,z,?_⟩,?_⟩
       ·rintro _ wD ⟨hsD,hCD⟩
        refine ⟨_,z,WL.sub ?_ hsD⟩
        refine Ar (vs:=[(I x12)]) hCD Ag ty3 z z z z (fac z<|fa0) z z (fun b7 w18 hC22 hB15=>?_)
        have hC23:=hC22.row0 (α:=Int)
        have hC24:=hC23.triv (Bt (x12))
        have hC25:=hC24.row1
        have hC26:=hC25.front 1 z
        dsimp only [List.eraseIdx,List.cons_append,List.nil_append,List.append_nil] at hC26
        have hC27:Ctx [] w0 w18 (Ad (.slice (some ⟨b7,0,none⟩) 1 1) ([x12]:List Int)::[Ad v7 x6,Ad v6 x5,Ah b5 [v4,v5],Ad v4 x3,Ad v5 x4,Ah b4 [v6,v7],Ah b3 [(I a3.1),u4]]):=hC26.rowOwn (by simp [maxLen])
        exact Aa<|⟨b7,⟨z,z,z,z,z,z,z,z,z,z,z,z,z,z,A6⟩,hC27⟩
       refine ⟨⟨_,_,z,z,?_⟩,?_⟩
       ·rintro _ wD ⟨hsD,hCD⟩
        refine ⟨_,z,WL.sub ?_ hsD⟩
        exact Al hCD 2 z z Au z z<|Aa<|⟨⟨z,z,z,z,z,z,z,z,z,z,z,z,z,z,A6⟩,hCD⟩
       refine ⟨⟨_,_,z,z,?_⟩,?_⟩
       ·rintro _ wD ⟨hsD,hCD⟩
        refine ⟨_,z,WL.sub ?_ hsD⟩
        exact A9 Ag ty3 g4 hx3 z z z fun b8 o2 h3=>Aa<|⟨b8,o2,⟨z,z,z,z,z,z,z,z,z,z,z,z,z,A6⟩,h3,hCD⟩
       refine ⟨⟨_,_,z,z,?_⟩,?_⟩
       ·rintro _ wD ⟨b7,hsD,hCD⟩
        refine ⟨_,z,WL.sub ?_ hsD⟩
        refine AS (α:=Int) hCD 4 z (hCD.ro 0 z) (Ay _ _) Ag ty3 z hx2 z z z (fun v17 w19 hC28=>?_)
        try dsimp only [List.set] at hC28
        exact Aa<|⟨b7,v17,⟨z,z,z,z,z,z,z,z,z,z,z,z,z,A6⟩,hC28⟩
       refine ⟨⟨_,_,z,z,?_⟩,?_⟩
       ·rintro _ wD ⟨b7,hsD,hCD⟩
        refine ⟨_,z,WL.sub ?_ hsD⟩
        exact Al hCD 3 z z Au z z<|Aa<|⟨b7,⟨z,z,z,z,z,z,z,z,z,z,z,z,z,z,A6⟩,hCD⟩
       refine ⟨⟨_,_,z,z,?_⟩,?_⟩
       ·rintro _ wD ⟨b7,hsD,hCD⟩
        refine ⟨_,z,WL.sub ?_ hsD⟩
        exact Al hCD 7 z z Au z z<|Aa<|⟨b7,⟨z,z,z,z,z,z,z,z,z,z,z,z,z,z,A6⟩,hCD⟩
       refine ⟨⟨_,_,z,z,?_⟩,?_⟩
       ·rintro _ wD ⟨hsD,hCD⟩
        refine ⟨_,z,WL.sub ?_ hsD⟩
        refine Ar (vs:=[(I x12)]) hCD Ag ty3 z z z z (fac z<|fa0) z z (fun b7 w18 hC22 hB15=>?_)
        have hC23:=hC22.row0 (α:=Int)
        have hC24:=hC23.triv (Bt (x12))
        have hC25:=hC24.row1
        have hC26:=hC25.front 1 z
        dsimp only [List.eraseIdx,List.cons_append,List.nil_append,List.append_nil] at hC26
        have hC27:Ctx [] w0 w18 (Ad (.slice (some ⟨b7,0,none⟩) 1 1) ([x12]:List Int)::[Ad v7 x6,Ad v6 x5,Ah b5 [v4,v5],Ad v4 x3,Ad v5 x4,Ah b4 [v6,v7],Ah b3 [(I a3.1),u4]]):=hC26.rowOwn (by simp [maxLen])
        exact Aa<|⟨b7,⟨z,z,z,z,z,z,z,z,z,z,z,z,z,z,A6⟩,hC27⟩
       refine ⟨⟨_,_,z,z,?_⟩,?_⟩
       ·rintro _ wD ⟨hsD,hCD⟩
        refine ⟨_,z,WL.sub ?_ hsD⟩
        exact Al hCD 6 z z Au z z<|Aa<|⟨⟨z,z,z,z,z,z,z,z,z,z,z,z,z,z,A6⟩,hCD⟩
       refine ⟨⟨_,_,z,z,?_⟩,?_⟩
       ·rintro _ wD ⟨hsD,hCD⟩
        refine ⟨_,z,WL.sub ?_ hsD⟩
        refine Ar (vs:=[(I x12)]) hCD Ag ty3 z z z z (fac z<|fa0) z z (fun b7 w18 hC22 hB15=>?_)
        have hC23:=hC22.row0 (α:=Int)
        have hC24:=hC23.triv (Bt (x12))
        have hC25:=hC24.row1
        have hC26:=hC25.front 1 z
        dsimp only [List.eraseIdx,List.cons_append,List.nil_append,List.append_nil] at hC26
        have hC27:Ctx [] w0 w18 (Ad (.slice (some ⟨b7,0,none⟩) 1 1) ([x12]:List Int)::[Ad v7 x6,Ad v6 x5,Ah b5 [v4,v5],Ad v4 x3,Ad v5 x4,Ah b4 [v6,v7],Ah b3 [(I a3.1),u4]]):=hC26.rowOwn (by simp [maxLen])
        exact Aa<|⟨b7,⟨z,z,z,z,z,z,z,z,z,z,z,z,z,z,A6⟩,hC27⟩
       refine ⟨⟨_,_,z,z,?_⟩,?_⟩
       ·rintro _ wD ⟨hsD,hCD⟩
        refine ⟨_,z,WL.sub ?_ hsD⟩
        exact Al hCD 2 z z Au z z<|Aa<|⟨⟨z,z,z,z,z,z,z,z,z,z,z,z,z,z,A6⟩,hCD⟩
       refine ⟨⟨_,_,z,z,?_⟩,?_⟩
       ·rintro _ wD ⟨hsD,hCD⟩
        refine ⟨_,z,WL.sub ?_ hsD⟩
        exact A9 Ag ty3 g4 hx3 z z z fun b8 o2 h3=>Aa<|⟨b8,o2,⟨z,z,z,z,z,z,z,z,z,z,z,z,z,A6⟩,h3,hCD⟩
       refine ⟨⟨_,_,z,z,?_⟩,?_⟩
       ·rintro _ wD ⟨b7,hsD,hCD⟩
        refine ⟨_,z,WL.sub ?_ hsD⟩
        exact Al hCD 3 z z Au z z<|Aa<|⟨b7,⟨z,z,z,z,z,z,z,z,z,z,z,z,z,z,A6⟩,hCD⟩
       refine ⟨⟨_,_,z,z,?_⟩,?_⟩
       ·rintro _ wD ⟨b7,hsD,hCD⟩
        refine ⟨_,z,WL.sub ?_ hsD⟩
        exact Al hCD 7 z z Au z z<|Aa<|⟨b7,⟨z,z,z,z,z,z,z,z,z,z,z,z,z,z,A6⟩,hCD⟩
       refine ⟨⟨_,_,z,z,?_⟩,?_⟩
       ·rintro _ wD ⟨b7,hsD,hCD⟩
        refine ⟨_,z,WL.sub ?_ hsD⟩
        exact Al hCD 3 z z Au z z<|Aa<|⟨b7,⟨z,z,z,z,z,z,z,z,z,z,z,z,z,z,A6⟩,hCD⟩
       refine ⟨⟨_,_,z,z,?_⟩,?_⟩
       ·rintro _ wD ⟨b7,hsD,hCD⟩
        refine ⟨_,z,WL.sub ?_ hsD⟩
        exact Al hCD 3 z z Au z z<|Aa<|⟨b7,⟨z,z,z,z,z,z,z,z,z,z,z,z,z,z,A6⟩,hCD⟩
       refine ⟨⟨_,_,z,z,?_⟩,?_⟩
       ·rintro _ wD ⟨b7,hsD,hCD⟩
        refine ⟨_,z,WL.sub ?_ hsD⟩
        exact A9 Ag ty3 g4 hx3 z z z fun b8 o2 h3=>Aa<|⟨b7,b8,o2,⟨z,z,z,z,z,z,z,z,z,z,z,z,z,A6⟩,h3,hCD⟩
       refine ⟨⟨_,_,z,z,?_⟩,?_⟩
       ·rintro _ wD ⟨hsD,hCD⟩
        refine ⟨_,z,WL.sub ?_ hsD⟩
        exact Al hCD 2 z z Au z z<|Aa<|⟨⟨z,z,z,z,z,z,z,z,z,z,z,z,z,z,A6⟩,hCD⟩
       refine ⟨⟨_,_,z,z,?_⟩,?_⟩
       ·rintro _ wD ⟨hsD,hCD⟩
        refine ⟨_,z,WL.sub ?_ hsD⟩
        refine Ar (vs:=[(I x12)]) hCD Ag ty3 z z z z (fac z<|fa0) z z (fun b7 w18 hC22 hB15=>?_)
        have hC23:=hC22.row0 (α:=Int)
        have hC24:=hC23.triv (Bt (x12))
        have hC25:=hC24.row1
        have hC26:=hC25.front 1 z
        dsimp only [List.eraseIdx,List.cons_append,List.nil_append,List.append_nil] at hC26
        have hC27:Ctx [] w0 w18 (Ad (.slice (some ⟨b7,0,none⟩) 1 1) ([x12]:List Int)::[Ad v7 x6,Ad v6 x5,Ah b5 [v4,v5],Ad v4 x3,Ad v5 x4,Ah b4 [v6,v7],Ah b3 [(I a3.1),u4]]):=hC26.rowOwn (by simp [maxLen])
        exact Aa<|⟨b7,⟨z,z,z,z,z,z,z,z,z,z,z,z,z,z,A6⟩,hC27⟩
       refine ⟨⟨_,_,z,z,?_⟩,?_⟩
       ·rintro _ wD ⟨hsD,hCD⟩
        refine ⟨_,z,WL.sub ?_ hsD⟩
        exact A9 Ag ty3 g4 hx3 z z z fun b8 o2 h3=>Aa<|⟨b8,o2,⟨z,z,z,z,z,z,z,z,z,z,z,z,z,A6⟩,h3,hCD⟩
       refine ⟨⟨_,_,z,z,?_⟩,?_⟩
       ·rintro _ wD ⟨b8,o2,hsD,h3,hCD⟩
        refine ⟨_,z,WL.sub ?_ hsD⟩
        exact Al hCD 2 z z Au z z<|Aa<|⟨b8,o2,⟨z,z,z,z,z,z,z,z,z,z,z,z,z,A6⟩,h3,hCD⟩
       refine ⟨⟨_,_,z,z,?_⟩,?_⟩
       ·rintro _ wD ⟨b8,o2,hsD,h3,hCD⟩
        refine ⟨_,z,WL.sub ?_ hsD⟩
        refine Ar (vs:=[(I x12)]) hCD Ag ty3 z z z z (fac z<|fa0) z z (fun b7 w18 hC22 hB15=>?_)
        have hC23:=hC22.row0 (α:=Int)
        have hC24:=hC23.triv (Bt (x12))
        have hC25:=hC24.row1
        have hC26:=hC25.front 1 z
        dsimp only [List.eraseIdx,List.cons_append,List.nil_append,List.append_nil] at hC26
        have hC27:Ctx [] w0 w18 (Ad (.slice (some ⟨b7,0,none⟩) 1 1) ([x12]:List Int)::[Ad v7 x6,Ad v6 x5,Ah b5 [v4,v5],Ad v4 x3,Ad v5 x4,Ah b4 [v6,v7],Ah b3 [(I a3.1),u4]]):=hC26.rowOwn (by simp [maxLen])
        exact Aa<|⟨b7,b8,o2,⟨z,z,z,z,z,z,z,z,z,z,z,z,z,A6⟩,h3,hC27⟩
       refine ⟨⟨_,_,z,z,?_⟩,?_⟩
       ·rintro _ wD ⟨b8,o2,hsD,h3,hCD⟩
        refine ⟨_,z,WL.sub ?_ hsD⟩
        exact Al hCD 2 z z Au z z<|Aa<|⟨b8,o2,⟨z,z,z,z,z,z,z,z,z,z,z,z,z,A6⟩,h3,hCD⟩
       refine ⟨⟨_,_,z,z,?_⟩,?_⟩
       ·rintro _ wD ⟨b8,o2,hsD,h3,hCD⟩
        refine ⟨_,z,WL.sub ?_ hsD⟩
        refine AD ty3 h3 hCD.keep z z (fun v18 h4=>?_)
        obtain rfl:=Bo h4
        exact Aa<|⟨b8,o2,⟨z,z,z,z,z,z,z,z,z,z,z,z,z,A6⟩,h3,hCD⟩
       refine ⟨⟨_,_,z,z,?_⟩,?_⟩
       ·rintro _ wD ⟨b7,v17,hsD,hCD⟩
        refine ⟨_,z,WL.sub ?_ hsD⟩
        exact Al hCD 3 z z Au z z<|Aa<|⟨b7,v17,⟨z,z,z,z,z,z,z,z,z,z,z,z,z,A6⟩,hCD⟩
       refine ⟨⟨_,_,z,z,?_⟩,?_⟩
       ·rintro _ wD ⟨b7,v17,hsD,hCD⟩
        refine ⟨_,z,WL.sub ?_ hsD⟩
        exact Al hCD 7 z z Au z z<|Aa<|⟨b7,v17,⟨z,z,z,z,z,z,z,z,z,z,z,z,z,A6⟩,hCD⟩
       refine ⟨⟨_,_,z,z,?_⟩,?_⟩
       ·rintro _ wD ⟨b7,hsD,hCD⟩
        refine ⟨_,z,WL.sub ?_ hsD⟩
        refine AS (α:=Int) hCD 4 z (hCD.ro 0 z) (Ay _ _) Ag ty3 z hx2 z z z (fun v17 w19 hC28=>?_)
        try dsimp only [List.set] at hC28
        exact Aa<|⟨b7,v17,⟨z,z,z,z,z,z,z,z,z,z,z,z,z,A6⟩,hC28⟩
       refine ⟨⟨_,_,z,z,?_⟩,?_⟩
       ·rintro _ wD ⟨b7,hsD,hCD⟩
        refine ⟨_,z,WL.sub ?_ hsD⟩
        exact Al hCD 7 z z Au z z<|Aa<|⟨b7,⟨z,z,z,z,z,z,z,z,z,z,z,z,z,z,A6⟩,hCD⟩
       refine ⟨⟨_,_,z,z,?_⟩,?_⟩
       ·rintro _ wD ⟨b7,hsD,hCD⟩
        refine ⟨_,z,WL.sub ?_ hsD⟩
        refine AS (α:=Int) hCD 4 z (hCD.ro 0 z) (Ay _ _) Ag ty3 z hx2 z z z (fun v17 w19 hC28=>?_)
        try dsimp only [List.set] at hC28
        exact Aa<|⟨b7,v17,⟨z,z,z,z,z,z,z,z,z,z,z,z,z,A6⟩,hC28⟩
       refine ⟨⟨_,_,z,z,?_⟩,?_⟩
       ·rintro _ wD ⟨b7,hsD,hCD⟩
        refine ⟨_,z,WL.sub ?_ hsD⟩
        exact Al hCD 3 z z Au z z<|Aa<|⟨b7,⟨z,z,z,z,z,z,z,z,z,z,z,z,z,z,A6⟩,hCD⟩
       refine ⟨⟨_,_,z,z,?_⟩,?_⟩
       ·rintro _ wD ⟨b7,hsD,hCD⟩
        refine ⟨_,z,WL.sub ?_ hsD⟩
        exact A9 Ag ty3 g4 hx3 z z z fun b8 o2 h3=>Aa<|⟨b7,b8,o2,⟨z,z,z,z,z,z,z,z,z,z,z,z,z,A6⟩,h3,hCD⟩
       refine ⟨⟨_,_,z,z,?_⟩,?_⟩
       ·rintro _ wD ⟨hsD,hCD⟩
        refine ⟨_,z,WL.sub ?_ hsD⟩
        refine Ar (vs:=[(I x12)]) hCD Ag ty3 z z z z (fac z<|fa0) z z (fun b7 w18 hC22 hB15=>?_)
        have hC23:=hC22.row0 (α:=Int)
        have hC24:=hC23.triv (Bt (x12))
        have hC25:=hC24.row1
        have hC26:=hC25.front 1 z
        dsimp only [List.eraseIdx,List.cons_append,List.nil_append,List.append_nil] at hC26
        have hC27:Ctx [] w0 w18 (Ad (.slice (some ⟨b7,0,none⟩) 1 1) ([x12]:List Int)::[Ad v7 x6,Ad v6 x5,Ah b5 [v4,v5],Ad v4 x3,Ad v5 x4,Ah b4 [v6,v7],Ah b3 [(I a3.1),u4]]):=hC26.rowOwn (by simp [maxLen])
        exact Aa<|⟨b7,⟨z,z,z,z,z,z,z,z,z,z,z,z,z,z,A6⟩,hC27⟩
       refine ⟨⟨_,_,z,z,?_⟩,?_⟩
       ·rintro _ wD ⟨hsD,hCD⟩
        refine ⟨_,z,WL.sub ?_ hsD⟩
        exact A9 Ag ty3 g4 hx3 z z z fun b8 o2 h3=>Aa<|⟨b8,o2,⟨z,z,z,z,z,z,z,z,z,z,z,z,z,A6⟩,h3,hCD⟩
       refine ⟨⟨_,_,z,z,?_⟩,?_⟩
       ·rintro _ wD ⟨b8,o2,hsD,h3,hCD⟩
        refine ⟨_,z,WL.sub ?_ hsD⟩
        refine Ar (vs:=[(I x12)]) hCD Ag ty3 z z z z (fac z<|fa0) z z (fun b7 w18 hC22 hB15=>?_)
        have hC23:=hC22.row0 (α:=Int)
        have hC24:=hC23.triv (Bt (x12))
        have hC25:=hC24.row1
        have hC26:=hC25.front 1 z
        dsimp only [List.eraseIdx,List.cons_append,List.nil_append,List.append_nil] at hC26
        have hC27:Ctx [] w0 w18 (Ad (.slice (some ⟨b7,0,none⟩) 1 1) ([x12]:List Int)::[Ad v7 x6,Ad v6 x5,Ah b5 [v4,v5],Ad v4 x3,Ad v5 x4,Ah b4 [v6,v7],Ah b3 [(I a3.1),u4]]):=hC26.rowOwn (by simp [maxLen])
        exact Aa<|⟨b7,b8,o2,⟨z,z,z,z,z,z,z,z,z,z,z,z,z,A6⟩,h3,hC27⟩
       refine ⟨⟨_,_,z,z,?_⟩,?_⟩
       ·rintro _ wD ⟨b8,o2,hsD,h3,hCD⟩
        refine ⟨_,z,WL.sub ?_ hsD⟩
        exact Al hCD 2 z z Au z z<|Aa<|⟨b8,o2,⟨z,z,z,z,z,z,z,z,z,z,z,z,z,A6⟩,h3,hCD⟩
       refine ⟨⟨_,_,z,z,?_⟩,?_⟩
       ·rintro _ wD ⟨b8,o2,hsD,h3,hCD⟩
        refine ⟨_,z,WL.sub ?_ hsD⟩
        refine AD ty3 h3 hCD.keep z z (fun v18 h4=>?_)
        obtain rfl:=Bo h4
        exact Aa<|⟨b8,o2,⟨z,z,z,z,z,z,z,z,z,z,z,z,z,A6⟩,h3,hCD⟩
       refine ⟨⟨_,_,z,z,?_⟩,?_⟩
       ·rintro _ wD ⟨b7,hsD,hCD⟩
        refine ⟨_,z,WL.sub ?_ hsD⟩
        exact Al hCD 3 z z Au z z<|Aa<|⟨b7,⟨z,z,z,z,z,z,z,z,z,z,z,z,z,z,A6⟩,hCD⟩
       refine ⟨⟨_,_,z,z,?_⟩,?_⟩
       ·rintro _ wD ⟨b7,hsD,hCD⟩
        refine ⟨_,z,WL.sub ?_ hsD⟩
        exact A9 Ag ty3 g4 hx3 z z z fun b8 o2 h3=>Aa<|⟨b7,b8,o2,⟨z,z,z,z,z,z,z,z,z,z,z,z,z,A6⟩,h3,hCD⟩
       refine ⟨⟨_,_,z,z,?_⟩,?_⟩
       ·rintro _ wD ⟨b7,b8,o2,hsD,h3,hCD⟩
        refine ⟨_,z,WL.sub ?_ hsD⟩
        exact Al hCD 3 z z Au z z<|Aa<|⟨b7,b8,o2,⟨z,z,z,z,z,z,z,z,z,z,z,z,z,A6⟩,h3,hCD⟩
       refine ⟨⟨_,_,z,z,?_⟩,?_⟩
       ·rintro _ wD ⟨b7,b8,o2,hsD,h3,hCD⟩
        refine ⟨_,z,WL.sub ?_ hsD⟩
        exact Al hCD 3 z z Au z z<|Aa<|⟨b7,b8,o2,⟨z,z,z,z,z,z,z,z,z,z,z,z,z,A6⟩,h3,hCD⟩
       refine ⟨⟨_,_,z,z,?_⟩,?_⟩
       ·rintro _ wD ⟨b7,b8,o2,hsD,h3,hCD⟩
        refine ⟨_,z,WL.sub ?_ hsD⟩
        refine AD ty3 h3 hCD.keep z z (fun v18 h4=>?_)
        obtain rfl:=Bo h4
        exact Aa<|⟨b7,b8,o2,⟨z,z,z,z,z,z,z,z,z,z,z,z,z,A6⟩,h3,hCD⟩
       refine ⟨⟨_,_,z,z,?_⟩,?_⟩
       ·rintro _ wD ⟨b8,o2,hsD,h3,hCD⟩
        refine ⟨_,z,WL.sub ?_ hsD⟩
        exact Al hCD 2 z z Au z z<|Aa<|⟨b8,o2,⟨z,z,z,z,z,z,z,z,z,z,z,z,z,A6⟩,h3,hCD⟩
       refine ⟨⟨_,_,z,z,?_⟩,?_⟩
       ·rintro _ wD ⟨b8,o2,hsD,h3,hCD⟩
        refine ⟨_,z,WL.sub ?_ hsD⟩
        refine Ar (vs:=[(I x12)]) hCD Ag ty3 z z z z (fac z<|fa0) z z (fun b7 w18 hC22 hB15=>?_)
        have hC23:=hC22.row0 (α:=Int)
        have hC24:=hC23.triv (Bt (x12))
        have hC25:=hC24.row1
        have hC26:=hC25.front 1 z
        dsimp only [List.eraseIdx,List.cons_append,List.nil_append,List.append_nil] at hC26
        have hC27:Ctx [] w0 w18 (Ad (.slice (some ⟨b7,0,none⟩) 1 1) ([x12]:List Int)::[Ad v7 x6,Ad v6 x5,Ah b5 [v4,v5],Ad v4 x3,Ad v5 x4,Ah b4 [v6,v7],Ah b3 [(I a3.1),u4]]):=hC26.rowOwn (by simp [maxLen])
        exact Aa<|⟨b7,b8,o2,⟨z,z,z,z,z,z,z,z,z,z,z,z,z,A6⟩,h3,hC27⟩
       refine ⟨⟨_,_,z,z,?_⟩,?_⟩
       ·rintro _ wD ⟨b8,o2,hsD,h3,hCD⟩
        refine ⟨_,z,WL.sub ?_ hsD⟩
        refine AD ty3 h3 hCD.keep z z (fun v18 h4=>?_)
        obtain rfl:=Bo h4
        exact Aa<|⟨b8,o2,⟨z,z,z,z,z,z,z,z,z,z,z,z,z,A6⟩,h3,hCD⟩
       refine ⟨⟨_,_,z,z,?_⟩,?_⟩
       ·rintro _ wD ⟨b8,o2,hsD,h3,hCD⟩
        refine ⟨_,z,WL.sub ?_ hsD⟩
        exact Al hCD 2 z z Au z z<|Aa<|⟨b8,o2,⟨z,z,z,z,z,z,z,z,z,z,z,z,z,A6⟩,h3,hCD⟩
       refine ⟨⟨_,_,z,z,?_⟩,?_⟩
       ·rintro _ wD ⟨b8,o2,hsD,h3,hCD⟩
        refine ⟨_,z,WL.sub ?_ hsD⟩
        refine Ar (vs:=[(I x12)]) hCD Ag ty3 z z z z (fac z<|fa0) z z (fun b7 w18 hC22 hB15=>?_)
        have hC23:=hC22.row0 (α:=Int)
        have hC24:=hC23.triv (Bt (x12))
        have hC25:=hC24.row1
        have hC26:=hC25.front 1 z
        dsimp only [List.eraseIdx,List.cons_append,List.nil_append,List.append_nil] at hC26
        have hC27:Ctx [] w0 w18 (Ad (.slice (some ⟨b7,0,none⟩) 1 1) ([x12]:List Int)::[Ad v7 x6,Ad v6 x5,Ah b5 [v4,v5],Ad v4 x3,Ad v5 x4,Ah b4 [v6,v7],Ah b3 [(I a3.1),u4]]):=hC26.rowOwn (by simp [maxLen])
        exact Aa<|⟨b7,b8,o2,⟨z,z,z,z,z,z,z,z,z,z,z,z,z,A6⟩,h3,hC27⟩
       refine ⟨⟨_,_,z,z,?_⟩,?_⟩
       ·rintro _ wD ⟨b8,o2,hsD,h3,hCD⟩
        refine ⟨_,z,WL.sub ?_ hsD⟩
        exact Al hCD 2 z z Au z z<|Aa<|⟨b8,o2,⟨z,z,z,z,z,z,z,z,z,z,z,z,z,A6⟩,h3,hCD⟩
       refine ⟨⟨_,_,z,z,?_⟩,?_⟩
       ·rintro _ wD ⟨b8,o2,hsD,h3,hCD⟩
        refine ⟨_,z,WL.sub ?_ hsD⟩
        refine Ar (vs:=[(I x21)]) hCD Ag ty3 z z z z (fac z<|fa0) z z (fun b9 w20 hC29 hB16=>?_)
        have hC30:=hC29.row0 (α:=Int)
        have hC31:=hC30.triv (Bt (x21))
        have hC32:=hC31.row1
        have hC33:=hC32.front 1 z
        dsimp only [List.eraseIdx,List.cons_append,List.nil_append,List.append_nil] at hC33
        have hC34:Ctx [] w0 w20 (Ad (.slice (some ⟨b9,0,none⟩) 1 1) ([x21]:List Int)::[Ad v7 x6,Ad v6 x5,Ah b5 [v4,v5],Ad v4 x3,Ad v5 x4,Ah b4 [v6,v7],Ah b3 [(I a3.1),u4]]):=hC33.rowOwn (by simp [maxLen])
        exact Aa<|⟨b8,o2,b9,⟨z,z,z,z,z,z,z,z,z,z,z,z,z,A6⟩,h3,hC34⟩
       refine ⟨⟨_,_,z,z,?_⟩,?_⟩
       ·rintro _ wD ⟨b7,v17,hsD,hCD⟩
        refine ⟨_,z,WL.sub ?_ hsD⟩
        exact Al hCD 7 z z Au z z<|Aa<|⟨b7,v17,⟨z,z,z,z,z,z,z,z,z,z,z,z,z,A6⟩,hCD⟩
       refine ⟨⟨_,_,z,z,?_⟩,?_⟩
       ·rintro _ wD ⟨b7,v17,hsD,hCD⟩
        refine ⟨_,z,WL.sub ?_ hsD⟩
        exact fd Bc Aq z z z z<|Aa<|⟨b7,v17,⟨z,z,z,z,z,z,z,z,z,z,z,z,z,z,A6⟩,hCD⟩
       refine ⟨⟨_,_,z,z,?_⟩,?_⟩
       ·rintro _ wD ⟨b7,v17,hsD,hCD⟩
        refine ⟨_,z,WL.sub ?_ hsD⟩
        exact Al hCD 3 z z Au z z<|Aa<|⟨b7,v17,⟨z,z,z,z,z,z,z,z,z,z,z,z,z,A6⟩,hCD⟩
       refine ⟨⟨_,_,z,z,?_⟩,?_⟩
       ·rintro _ wD ⟨b7,v17,hsD,hCD⟩
        refine ⟨_,z,WL.sub ?_ hsD⟩
        exact A9 Ag ty3 g4 hx3 z z z fun b8 o2 h3=>Aa<|⟨b7,v17,b8,o2,⟨z,z,z,z,z,z,z,z,z,z,z,z,A6⟩,h3,hCD⟩
       refine ⟨⟨_,_,z,z,?_⟩,?_⟩
       ·rintro _ wD ⟨b7,hsD,hCD⟩
        refine ⟨_,z,WL.sub ?_ hsD⟩
        refine AS (α:=Int) hCD 4 z (hCD.ro 0 z) (Ay _ _) Ag ty3 z hx2 z z z (fun v17 w19 hC28=>?_)
        try dsimp only [List.set] at hC28
        exact Aa<|⟨b7,v17,⟨z,z,z,z,z,z,z,z,z,z,z,z,z,A6⟩,hC28⟩
       refine ⟨⟨_,_,z,z,?_⟩,?_⟩
       ·rintro _ wD ⟨b7,hsD,hCD⟩
        refine ⟨_,z,WL.sub ?_ hsD⟩
        exact A9 Ag ty3 g4 hx3 z z z fun b8 o2 h3=>Aa<|⟨b7,b8,o2,⟨z,z,z,z,z,z,z,z,z,z,z,z,z,A6⟩,h3,hCD⟩
       refine ⟨⟨_,_,z,z,?_⟩,?_⟩
       ·rintro _ wD ⟨b7,b8,o2,hsD,h3,hCD⟩
        refine ⟨_,z,WL.sub ?_ hsD⟩
        refine AS (α:=Int) hCD 4 z (hCD.ro 0 z) (Ay _ _) Ag ty3 z hx2 z z z (fun v17 w19 hC28=>?_)
        try dsimp only [List.set] at hC28
        exact Aa<|⟨b7,v17,b8,o2,⟨z,z,z,z,z,z,z,z,z,z,z,z,A6⟩,h3,hC28⟩
       refine ⟨⟨_,_,z,z,?_⟩,?_⟩
       ·rintro _ wD ⟨b7,b8,o2,hsD,h3,hCD⟩
        refine ⟨_,z,WL.sub ?_ hsD⟩
        exact Al hCD 3 z z Au z z<|Aa<|⟨b7,b8,o2,⟨z,z,z,z,z,z,z,z,z,z,z,z,z,A6⟩,h3,hCD⟩
       refine ⟨⟨_,_,z,z,?_⟩,?_⟩
       ·rintro _ wD ⟨b7,b8,o2,hsD,h3,hCD⟩
        refine ⟨_,z,WL.sub ?_ hsD⟩
        refine AD ty3 h3 hCD.keep z z (fun v18 h4=>?_)
        obtain rfl:=Bo h4
        exact Aa<|⟨b7,b8,o2,⟨z,z,z,z,z,z,z,z,z,z,z,z,z,A6⟩,h3,hCD⟩
       refine ⟨⟨_,_,z,z,?_⟩,?_⟩
       ·rintro _ wD ⟨b8,o2,hsD,h3,hCD⟩
        refine ⟨_,z,WL.sub ?_ hsD⟩
        refine Ar (vs:=[(I x12)]) hCD Ag ty3 z z z z (fac z<|fa0) z z (fun b7 w18 hC22 hB15=>?_)
        have hC23:=hC22.row0 (α:=Int)
        have hC24:=hC23.triv (Bt (x12))
        have hC25:=hC24.row1
        have hC26:=hC25.front 1 z
        dsimp only [List.eraseIdx,List.cons_append,List.nil_append,List.append_nil] at hC26
        have hC27:Ctx [] w0 w18 (Ad (.slice (some ⟨b7,0,none⟩) 1 1) ([x12]:List Int)::[Ad v7 x6,Ad v6 x5,Ah b5 [v4,v5],Ad v4 x3,Ad v5 x4,Ah b4 [v6,v7],Ah b3 [(I a3.1),u4]]):=hC26.rowOwn (by simp [maxLen])
        exact Aa<|⟨b7,b8,o2,⟨z,z,z,z,z,z,z,z,z,z,z,z,z,A6⟩,h3,hC27⟩
       refine ⟨⟨_,_,z,z,?_⟩,?_⟩
       ·rintro _ wD ⟨b8,o2,hsD,h3,hCD⟩
        refine ⟨_,z,WL.sub ?_ hsD⟩
        refine AD ty3 h3 hCD.keep z z (fun v18 h4=>?_)
        obtain rfl:=Bo h4
        exact Aa<|⟨b8,o2,⟨z,z,z,z,z,z,z,z,z,z,z,z,z,A6⟩,h3,hCD⟩
       refine ⟨⟨_,_,z,z,?_⟩,?_⟩
       ·rintro _ wD ⟨b8,o2,hsD,h3,hCD⟩
        refine ⟨_,z,WL.sub ?_ hsD⟩
        refine Ar (vs:=[(I x12)]) hCD Ag ty3 z z z z (fac z<|fa0) z z (fun b7 w18 hC22 hB15=>?_)
        have hC23:=hC22.row0 (α:=Int)
        have hC24:=hC23.triv (Bt (x12))
        have hC25:=hC24.row1
        have hC26:=hC25.front 1 z
        dsimp only [List.eraseIdx,List.cons_append,List.nil_append,List.append_nil] at hC26
        have hC27:Ctx [] w0 w18 (Ad (.slice (some ⟨b7,0,none⟩) 1 1) ([x12]:List Int)::[Ad v7 x6,Ad v6 x5,Ah b5 [v4,v5],Ad v4 x3,Ad v5 x4,Ah b4 [v6,v7],Ah b3 [(I a3.1),u4]]):=hC26.rowOwn (by simp [maxLen])
        exact Aa<|⟨b7,b8,o2,⟨z,z,z,z,z,z,z,z,z,z,z,z,z,A6⟩,h3,hC27⟩
       refine ⟨⟨_,_,z,z,?_⟩,?_⟩
       ·rintro _ wD ⟨b8,o2,hsD,h3,hCD⟩
        refine ⟨_,z,WL.sub ?_ hsD⟩
        exact Al hCD 2 z z Au z z<|Aa<|⟨b8,o2,⟨z,z,z,z,z,z,z,z,z,z,z,z,z,A6⟩,h3,hCD⟩
       refine ⟨⟨_,_,z,z,?_⟩,?_⟩
       ·rintro _ wD ⟨b8,o2,hsD,h3,hCD⟩
        refine ⟨_,z,WL.sub ?_ hsD⟩
        refine Ar (vs:=[(I x21)]) hCD Ag ty3 z z z z (fac z<|fa0) z z (fun b9 w20 hC29 hB16=>?_)
        have hC30:=hC29.row0 (α:=Int)
        have hC31:=hC30.triv (Bt (x21))
        have hC32:=hC31.row1
        have hC33:=hC32.front 1 z
        dsimp only [List.eraseIdx,List.cons_append,List.nil_append,List.append_nil] at hC33
        have hC34:Ctx [] w0 w20 (Ad (.slice (some ⟨b9,0,none⟩) 1 1) ([x21]:List Int)::[Ad v7 x6,Ad v6 x5,Ah b5 [v4,v5],Ad v4 x3,Ad v5 x4,Ah b4 [v6,v7],Ah b3 [(I a3.1),u4]]):=hC33.rowOwn (by simp [maxLen])
        exact Aa<|⟨b8,o2,b9,⟨z,z,z,z,z,z,z,z,z,z,z,z,z,A6⟩,h3,hC34⟩
       refine ⟨⟨_,_,z,z,?_⟩,?_⟩
       ·rintro _ wD ⟨b7,b8,o2,hsD,h3,hCD⟩
        refine ⟨_,z,WL.sub ?_ hsD⟩
        exact Al hCD 3 z z Au z z<|Aa<|⟨b7,b8,o2,⟨z,z,z,z,z,z,z,z,z,z,z,z,z,A6⟩,h3,hCD⟩
       refine ⟨⟨_,_,z,z,?_⟩,?_⟩
       ·rintro _ wD ⟨b7,b8,o2,hsD,h3,hCD⟩
        refine ⟨_,z,WL.sub ?_ hsD⟩
        refine AD ty3 h3 hCD.keep z z (fun v18 h4=>?_)
        obtain rfl:=Bo h4
        exact Aa<|⟨b7,b8,o2,⟨z,z,z,z,z,z,z,z,z,z,z,z,z,A6⟩,h3,hCD⟩
       refine ⟨⟨_,_,z,z,?_⟩,?_⟩
       ·rintro _ wD ⟨b7,b8,o2,hsD,h3,hCD⟩
        refine ⟨_,z,WL.sub ?_ hsD⟩
        exact Al hCD 3 z z Au z z<|Aa<|⟨b7,b8,o2,⟨z,z,z,z,z,z,z,z,z,z,z,z,z,A6⟩,h3,hCD⟩
       refine ⟨⟨_,_,z,z,?_⟩,?_⟩
       ·rintro _ wD ⟨b7,b8,o2,hsD,h3,hCD⟩
        refine ⟨_,z,WL.sub ?_ hsD⟩
        exact Al hCD 3 z z Au z z<|Aa<|⟨b7,b8,o2,⟨z,z,z,z,z,z,z,z,z,z,z,z,z,A6⟩,h3,hCD⟩
       refine ⟨⟨_,_,z,z,?_⟩,?_⟩
       ·rintro _ wD ⟨b7,b8,o2,hsD,h3,hCD⟩
        refine ⟨_,z,WL.sub ?_ hsD⟩
        refine Ar (vs:=[(I x21)]) hCD Ag ty3 z z z z (fac z<|fa0) z z (fun b9 w20 hC29 hB16=>?_)
        have hC30:=hC29.row0 (α:=Int)
        have hC31:=hC30.triv (Bt (x21))
        have hC32:=hC31.row1
        have hC33:=hC32.front 1 z
        dsimp only [List.eraseIdx,List.cons_append,List.nil_append,List.append_nil] at hC33
        have hC34:Ctx [] w0 w20 (Ad (.slice (some ⟨b9,0,none⟩) 1 1) ([x21]:List Int)::[Ad (.slice (some ⟨b7,0,none⟩) 1 1) ([x12]:Ta),Ad v7 x6,Ad v6 x5,Ah b5 [v4,v5],Ad v4 x3,Ad v5 x4,Ah b4 [v6,v7],Ah b3 [(I a3.1),u4]]):=hC33.rowOwn (by simp [maxLen])
        exact Aa<|⟨b7,b8,o2,b9,⟨z,z,z,z,z,z,z,z,z,z,z,z,z,A6⟩,h3,hC34⟩
       refine ⟨⟨_,_,z,z,?_⟩,?_⟩
       ·rintro _ wD ⟨b8,o2,hsD,h3,hCD⟩
        refine ⟨_,z,WL.sub ?_ hsD⟩
        exact Al hCD 2 z z Au z z<|Aa<|⟨b8,o2,⟨z,z,z,z,z,z,z,z,z,z,z,z,z,A6⟩,h3,hCD⟩
       refine ⟨⟨_,_,z,z,?_⟩,?_⟩
       ·rintro _ wD ⟨b8,o2,hsD,h3,hCD⟩
        refine ⟨_,z,WL.sub ?_ hsD⟩
        refine Ar (vs:=[(I x12)]) hCD Ag ty3 z z z z (fac z<|fa0) z z (fun b7 w18 hC22 hB15=>?_)
        have hC23:=hC22.row0 (α:=Int)
        have hC24:=hC23.triv (Bt (x12))
        have hC25:=hC24.row1
        have hC26:=hC25.front 1 z
        dsimp only [List.eraseIdx,List.cons_append,List.nil_append,List.append_nil] at hC26
        have hC27:Ctx [] w0 w18 (Ad (.slice (some ⟨b7,0,none⟩) 1 1) ([x12]:List Int)::[Ad v7 x6,Ad v6 x5,Ah b5 [v4,v5],Ad v4 x3,Ad v5 x4,Ah b4 [v6,v7],Ah b3 [(I a3.1),u4]]):=hC26.rowOwn (by simp [maxLen])
        exact Aa<|⟨b7,b8,o2,⟨z,z,z,z,z,z,z,z,z,z,z,z,z,A6⟩,h3,hC27⟩
       refine ⟨⟨_,_,z,z,?_⟩,?_⟩
       ·rintro _ wD ⟨b8,o2,hsD,h3,hCD⟩
        refine ⟨_,z,WL.sub ?_ hsD⟩
        refine Ar (vs:=[(I x21)]) hCD Ag ty3 z z z z (fac z<|fa0) z z (fun b9 w20 hC29 hB16=>?_)
        have hC30:=hC29.row0 (α:=Int)
        have hC31:=hC30.triv (Bt (x21))
        have hC32:=hC31.row1
        have hC33:=hC32.front 1 z
        dsimp only [List.eraseIdx,List.cons_append,List.nil_append,List.append_nil] at hC33
        have hC34:Ctx [] w0 w20 (Ad (.slice (some ⟨b9,0,none⟩) 1 1) ([x21]:List Int)::[Ad v7 x6,Ad v6 x5,Ah b5 [v4,v5],Ad v4 x3,Ad v5 x4,Ah b4 [v6,v7],Ah b3 [(I a3.1),u4]]):=hC33.rowOwn (by simp [maxLen])
        exact Aa<|⟨b8,o2,b9,⟨z,z,z,z,z,z,z,z,z,z,z,z,z,A6⟩,h3,hC34⟩
       refine ⟨⟨_,_,z,z,?_⟩,?_⟩
       ·rintro _ wD ⟨b8,o2,b9,hsD,h3,hCD⟩
        refine ⟨_,z,WL.sub ?_ hsD⟩
        exact Al hCD 3 z z Au z z<|Aa<|⟨b8,o2,b9,⟨z,z,z,z,z,z,z,z,z,z,z,z,z,A6⟩,h3,hCD⟩
       refine ⟨⟨_,_,z,z,?_⟩,?_⟩
       ·rintro _ wD ⟨b8,o2,b9,hsD,h3,hCD⟩
        refine ⟨_,z,WL.sub ?_ hsD⟩
        refine Ar (vs:=[(I x12)]) hCD Ag ty3 z z z z (fac z<|fa0) z z (fun b7 w18 hC22 hB15=>?_)
        have hC23:=hC22.row0 (α:=Int)
        have hC24:=hC23.triv (Bt (x12))
        have hC25:=hC24.row1
        have hC26:=hC25.front 1 z
        dsimp only [List.eraseIdx,List.cons_append,List.nil_append,List.append_nil] at hC26
        have hC27:Ctx [] w0 w18 (Ad (.slice (some ⟨b7,0,none⟩) 1 1) ([x12]:List Int)::[Ad (.slice (some ⟨b9,0,none⟩) 1 1) ([x21]:Ta),Ad v7 x6,Ad v6 x5,Ah b5 [v4,v5],Ad v4 x3,Ad v5 x4,Ah b4 [v6,v7],Ah b3 [(I a3.1),u4]]):=hC26.rowOwn (by simp [maxLen])
        exact Aa<|have hC28:=hC27.f8;have hC29:=hC28.f8;have hC30:=hC29.f8;have hC31:=hC30.f8;have hC32:=hC31.f8;have hC33:=hC32.f8;have hC34:=hC33.f8;have hC35:=hC34.f7;have hC36:=hC35.f8;⟨b7,b8,o2,b9,⟨z,z,z,z,z,z,z,z,z,z,z,z,z,A6⟩,h3,hC36⟩
       refine ⟨⟨_,_,z,z,?_⟩,?_⟩
       ·rintro _ wD ⟨b8,o2,b9,hsD,h3,hCD⟩
        refine ⟨_,z,WL.sub ?_ hsD⟩
        exact Al hCD 3 z z Au z z<|Aa<|⟨b8,o2,b9,⟨z,z,z,z,z,z,z,z,z,z,z,z,z,A6⟩,h3,hCD⟩
       refine ⟨⟨_,_,z,z,?_⟩,?_⟩
       ·rintro _ wD ⟨b7,v17,hsD,hCD⟩
        refine ⟨_,z,WL.sub ?_ hsD⟩
        exact A9 Ag ty3 g4 hx3 z z z fun b8 o2 h3=>Aa<|⟨b7,v17,b8,o2,⟨z,z,z,z,z,z,z,z,z,z,z,z,A6⟩,h3,hCD⟩
       refine ⟨⟨_,_,z,z,?_⟩,?_⟩
       ·rintro _ wD ⟨b7,v17,hsD,hCD⟩
        refine ⟨_,z,WL.sub ?_ hsD⟩
        exact fd Bc Aq z z z z<|Aa<|⟨b7,v17,⟨z,z,z,z,z,z,z,z,z,z,z,z,z,z,A6⟩,hCD⟩
       refine ⟨⟨_,_,z,z,?_⟩,?_⟩
       ·rintro _ wD ⟨b7,v17,hsD,hCD⟩
        refine ⟨_,z,WL.sub ?_ hsD⟩
        exact Al hCD 7 z z Au z z<|Aa<|⟨b7,v17,⟨z,z,z,z,z,z,z,z,z,z,z,z,z,z,A6⟩,hCD⟩
       refine ⟨⟨_,_,z,z,?_⟩,?_⟩
       ·rintro _ wD ⟨b7,v17,b8,o2,hsD,h3,hCD⟩
        refine ⟨_,z,WL.sub ?_ hsD⟩
        exact Al hCD 3 z z Au z z<|Aa<|⟨b7,v17,b8,o2,⟨z,z,z,z,z,z,z,z,z,z,z,z,A6⟩,h3,hCD⟩
       refine ⟨⟨_,_,z,z,?_⟩,?_⟩
       ·rintro _ wD ⟨b7,v17,b8,o2,hsD,h3,hCD⟩
        refine ⟨_,z,WL.sub ?_ hsD⟩
        refine AD ty3 h3 hCD.keep z z (fun v18 h4=>?_)
        obtain rfl:=Bo h4
        exact Aa<|⟨b7,v17,b8,o2,⟨z,z,z,z,z,z,z,z,z,z,z,z,A6⟩,h3,hCD⟩
       refine ⟨⟨_,_,z,z,?_⟩,?_⟩
       ·rintro _ wD ⟨b7,b8,o2,hsD,h3,hCD⟩
        refine ⟨_,z,WL.sub ?_ hsD⟩
        refine AS (α:=Int) hCD 4 z (hCD.ro 0 z) (Ay _ _) Ag ty3 z hx2 z z z (fun v17 w19 hC28=>?_)
        try dsimp only [List.set] at hC28
        exact Aa<|⟨b7,v17,b8,o2,⟨z,z,z,z,z,z,z,z,z,z,z,z,A6⟩,h3,hC28⟩
       refine ⟨⟨_,_,z,z,?_⟩,?_⟩
       ·rintro _ wD ⟨b7,b8,o2,hsD,h3,hCD⟩
        refine ⟨_,z,WL.sub ?_ hsD⟩
        refine AD ty3 h3 hCD.keep z z (fun v18 h4=>?_)
        obtain rfl:=Bo h4
        exact Aa<|⟨b7,b8,o2,⟨z,z,z,z,z,z,z,z,z,z,z,z,z,A6⟩,h3,hCD⟩
       refine ⟨⟨_,_,z,z,?_⟩,?_⟩
       ·rintro _ wD ⟨b7,b8,o2,hsD,h3,hCD⟩
        refine ⟨_,z,WL.sub ?_ hsD⟩
        refine AS (α:=Int) hCD 4 z (hCD.ro 0 z) (Ay _ _) Ag ty3 z hx2 z z z (fun v17 w19 hC28=>?_)
        try dsimp only [List.set] at hC28
        exact Aa<|⟨b7,v17,b8,o2,⟨z,z,z,z,z,z,z,z,z,z,z,z,A6⟩,h3,hC28⟩
       refine ⟨⟨_,_,z,z,?_⟩,?_⟩
       ·rintro _ wD ⟨b7,b8,o2,hsD,h3,hCD⟩
        refine ⟨_,z,WL.sub ?_ hsD⟩
        exact Al hCD 3 z z Au z z<|Aa<|⟨b7,b8,o2,⟨z,z,z,z,z,z,z,z,z,z,z,z,z,A6⟩,h3,hCD⟩
       refine ⟨⟨_,_,z,z,?_⟩,?_⟩
       ·rintro _ wD ⟨b7,b8,o2,hsD,h3,hCD⟩
        refine ⟨_,z,WL.sub ?_ hsD⟩
        refine Ar (vs:=[(I x21)]) hCD Ag ty3 z z z z (fac z<|fa0) z z (fun b9 w20 hC29 hB16=>?_)
        have hC30:=hC29.row0 (α:=Int)
        have hC31:=hC30.triv (Bt (x21))
        have hC32:=hC31.row1
        have hC33:=hC32.front 1 z
        dsimp only [List.eraseIdx,List.cons_append,List.nil_append,List.append_nil] at hC33
        have hC34:Ctx [] w0 w20 (Ad (.slice (some ⟨b9,0,none⟩) 1 1) ([x21]:List Int)::[Ad (.slice (some ⟨b7,0,none⟩) 1 1) ([x12]:Ta),Ad v7 x6,Ad v6 x5,Ah b5 [v4,v5],Ad v4 x3,Ad v5 x4,Ah b4 [v6,v7],Ah b3 [(I a3.1),u4]]):=hC33.rowOwn (by simp [maxLen])
        exact Aa<|⟨b7,b8,o2,b9,⟨z,z,z,z,z,z,z,z,z,z,z,z,z,A6⟩,h3,hC34⟩
       refine ⟨⟨_,_,z,z,?_⟩,?_⟩
       ·rintro _ wD ⟨b8,o2,hsD,h3,hCD⟩
        refine ⟨_,z,WL.sub ?_ hsD⟩
        refine Ar (vs:=[(I x12)]) hCD Ag ty3 z z z z (fac z<|fa0) z z (fun b7 w18 hC22 hB15=>?_)
        have hC23:=hC22.row0 (α:=Int)
        have hC24:=hC23.triv (Bt (x12))
        have hC25:=hC24.row1
        have hC26:=hC25.front 1 z
        dsimp only [List.eraseIdx,List.cons_append,List.nil_append,List.append_nil] at hC26
        have hC27:Ctx [] w0 w18 (Ad (.slice (some ⟨b7,0,none⟩) 1 1) ([x12]:List Int)::[Ad v7 x6,Ad v6 x5,Ah b5 [v4,v5],Ad v4 x3,Ad v5 x4,Ah b4 [v6,v7],Ah b3 [(I a3.1),u4]]):=hC26.rowOwn (by simp [maxLen])
        exact Aa<|⟨b7,b8,o2,⟨z,z,z,z,z,z,z,z,z,z,z,z,z,A6⟩,h3,hC27⟩
       refine ⟨⟨_,_,z,z,?_⟩,?_⟩
       ·rintro _ wD ⟨b8,o2,hsD,h3,hCD⟩
        refine ⟨_,z,WL.sub ?_ hsD⟩
        refine Ar (vs:=[(I x21)]) hCD Ag ty3 z z z z (fac z<|fa0) z z (fun b9 w20 hC29 hB16=>?_)
        have hC30:=hC29.row0 (α:=Int)
        have hC31:=hC30.triv (Bt (x21))
        have hC32:=hC31.row1
        have hC33:=hC32.front 1 z
        dsimp only [List.eraseIdx,List.cons_append,List.nil_append,List.append_nil] at hC33
        have hC34:Ctx [] w0 w20 (Ad (.slice (some ⟨b9,0,none⟩) 1 1) ([x21]:List Int)::[Ad v7 x6,Ad v6 x5,Ah b5 [v4,v5],Ad v4 x3,Ad v5 x4,Ah b4 [v6,v7],Ah b3 [(I a3.1),u4]]):=hC33.rowOwn (by simp [maxLen])
        exact Aa<|⟨b8,o2,b9,⟨z,z,z,z,z,z,z,z,z,z,z,z,z,A6⟩,h3,hC34⟩
       refine ⟨⟨_,_,z,z,?_⟩,?_⟩
       ·rintro _ wD ⟨b8,o2,b9,hsD,h3,hCD⟩
        refine ⟨_,z,WL.sub ?_ hsD⟩
        refine Ar (vs:=[(I x12)]) hCD Ag ty3 z z z z (fac z<|fa0) z z (fun b7 w18 hC22 hB15=>?_)
        have hC23:=hC22.row0 (α:=Int)
        have hC24:=hC23.triv (Bt (x12))
        have hC25:=hC24.row1
        have hC26:=hC25.front 1 z
        dsimp only [List.eraseIdx,List.cons_append,List.nil_append,List.append_nil] at hC26
        have hC27:Ctx [] w0 w18 (Ad (.slice (some ⟨b7,0,none⟩) 1 1) ([x12]:List Int)::[Ad (.slice (some ⟨b9,0,none⟩) 1 1) ([x21]:Ta),Ad v7 x6,Ad v6 x5,Ah b5 [v4,v5],Ad v4 x3,Ad v5 x4,Ah b4 [v6,v7],Ah b3 [(I a3.1),u4]]):=hC26.rowOwn (by simp [maxLen])
        exact Aa<|have hC28:=hC27.f8;have hC29:=hC28.f8;have hC30:=hC29.f8;have hC31:=hC30.f8;have hC32:=hC31.f8;have hC33:=hC32.f8;have hC34:=hC33.f8;have hC35:=hC34.f7;have hC36:=hC35.f8;⟨b7,b8,o2,b9,⟨z,z,z,z,z,z,z,z,z,z,z,z,z,A6⟩,h3,hC36⟩
       refine ⟨⟨_,_,z,z,?_⟩,?_⟩
       ·rintro _ wD ⟨b8,o2,b9,hsD,h3,hCD⟩
        refine ⟨_,z,WL.sub ?_ hsD⟩
        exact Al hCD 3 z z Au z z<|Aa<|⟨b8,o2,b9,⟨z,z,z,z,z,z,z,z,z,z,z,z,z,A6⟩,h3,hCD⟩
       refine ⟨⟨_,_,z,z,?_⟩,?_⟩
       ·rintro _ wD ⟨b7,b8,o2,hsD,h3,hCD⟩
        refine ⟨_,z,WL.sub ?_ hsD⟩
        exact Al hCD 3 z z Au z z<|Aa<|⟨b7,b8,o2,⟨z,z,z,z,z,z,z,z,z,z,z,z,z,A6⟩,h3,hCD⟩
       refine ⟨⟨_,_,z,z,?_⟩,?_⟩
       ·rintro _ wD ⟨b7,b8,o2,hsD,h3,hCD⟩
        refine ⟨_,z,WL.sub ?_ hsD⟩
        refine Ar (vs:=[(I x21)]) hCD Ag ty3 z z z z (fac z<|fa0) z z (fun b9 w20 hC29 hB16=>?_)
        have hC30:=hC29.row0 (α:=Int)
        have hC31:=hC30.triv (Bt (x21))
        have hC32:=hC31.row1
        have hC33:=hC32.front 1 z
        dsimp only [List.eraseIdx,List.cons_append,List.nil_append,List.append_nil] at hC33
        have hC34:Ctx [] w0 w20 (Ad (.slice (some ⟨b9,0,none⟩) 1 1) ([x21]:List Int)::[Ad (.slice (some ⟨b7,0,none⟩) 1 1) ([x12]:Ta),Ad v7 x6,Ad v6 x5,Ah b5 [v4,v5],Ad v4 x3,Ad v5 x4,Ah b4 [v6,v7],Ah b3 [(I a3.1),u4]]):=hC33.rowOwn (by simp [maxLen])
        exact Aa<|⟨b7,b8,o2,b9,⟨z,z,z,z,z,z,z,z,z,z,z,z,z,A6⟩,h3,hC34⟩
       refine ⟨⟨_,_,z,z,?_⟩,?_⟩
       ·rintro _ wD ⟨b7,b8,o2,b9,hsD,h3,hCD⟩
        refine ⟨_,z,WL.sub ?_ hsD⟩
        exact Al hCD 4 z z Au z z<|Aa<|⟨b7,b8,o2,b9,⟨z,z,z,z,z,z,z,z,z,z,z,z,z,A6⟩,h3,hCD⟩
       refine ⟨⟨_,_,z,z,?_⟩,?_⟩
       ·rintro _ wD ⟨b7,b8,o2,b9,hsD,h3,hCD⟩
        refine ⟨_,z,WL.sub ?_ hsD⟩
        exact Al hCD 4 z z Au z z<|Aa<|⟨b7,b8,o2,b9,⟨z,z,z,z,z,z,z,z,z,z,z,z,z,A6⟩,h3,hCD⟩
       refine ⟨⟨_,_,z,z,?_⟩,?_⟩
       ·rintro _ wD ⟨b8,o2,b9,hsD,h3,hCD⟩
        refine ⟨_,z,WL.sub ?_ hsD⟩
        exact Al hCD 3 z z Au z z<|Aa<|⟨b8,o2,b9,⟨z,z,z,z,z,z,z,z,z,z,z,z,z,A6⟩,h3,hCD⟩
       refine ⟨⟨_,_,z,z,?_⟩,?_⟩
       ·rintro _ wD ⟨b8,o2,b9,hsD,h3,hCD⟩
        refine ⟨_,z,WL.sub ?_ hsD⟩
        refine Ar (vs:=[(I x12)]) hCD Ag ty3 z z z z (fac z<|fa0) z z (fun b7 w18 hC22 hB15=>?_)
        have hC23:=hC22.row0 (α:=Int)
        have hC24:=hC23.triv (Bt (x12))
        have hC25:=hC24.row1
        have hC26:=hC25.front 1 z
        dsimp only [List.eraseIdx,List.cons_append,List.nil_append,List.append_nil] at hC26
        have hC27:Ctx [] w0 w18 (Ad (.slice (some ⟨b7,0,none⟩) 1 1) ([x12]:List Int)::[Ad (.slice (some ⟨b9,0,none⟩) 1 1) ([x21]:Ta),Ad v7 x6,Ad v6 x5,Ah b5 [v4,v5],Ad v4 x3,Ad v5 x4,Ah b4 [v6,v7],Ah b3 [(I a3.1),u4]]):=hC26.rowOwn (by simp [maxLen])
        exact Aa<|have hC28:=hC27.f8;have hC29:=hC28.f8;have hC30:=hC29.f8;have hC31:=hC30.f8;have hC32:=hC31.f8;have hC33:=hC32.f8;have hC34:=hC33.f8;have hC35:=hC34.f7;have hC36:=hC35.f8;⟨b7,b8,o2,b9,⟨z,z,z,z,z,z,z,z,z,z,z,z,z,A6⟩,h3,hC36⟩
       refine ⟨⟨_,_,z,z,?_⟩,?_⟩
       ·rintro _ wD ⟨b7,v17,b8,o2,hsD,h3,hCD⟩
        refine ⟨_,z,WL.sub ?_ hsD⟩
        refine AD ty3 h3 hCD.keep z z (fun v18 h4=>?_)
        obtain rfl:=Bo h4
        exact Aa<|⟨b7,v17,b8,o2,⟨z,z,z,z,z,z,z,z,z,z,z,z,A6⟩,h3,hCD⟩
       refine ⟨⟨_,_,z,z,?_⟩,?_⟩
       ·rintro _ wD ⟨b7,v17,b8,o2,hsD,h3,hCD⟩
        refine ⟨_,z,WL.sub ?_ hsD⟩
        exact fd Bc Aq z z z z<|Aa<|⟨b7,v17,b8,o2,⟨z,z,z,z,z,z,z,z,z,z,z,z,z,A6⟩,h3,hCD⟩
       refine ⟨⟨_,_,z,z,?_⟩,?_⟩
       ·rintro _ wD ⟨b7,v17,hsD,hCD⟩
        refine ⟨_,z,WL.sub ?_ hsD⟩
        exact A9 Ag ty3 g4 hx3 z z z fun b8 o2 h3=>Aa<|⟨b7,v17,b8,o2,⟨z,z,z,z,z,z,z,z,z,z,z,z,z,A6⟩,h3,hCD⟩
       refine ⟨⟨_,_,z,z,?_⟩,?_⟩
       ·rintro _ wD ⟨b7,v17,b8,o2,hsD,h3,hCD⟩
        refine ⟨_,z,WL.sub ?_ hsD⟩
        exact Al hCD 3 z z Au z z<|Aa<|⟨b7,v17,b8,o2,⟨z,z,z,z,z,z,z,z,z,z,z,z,A6⟩,h3,hCD⟩
       refine ⟨⟨_,_,z,z,?_⟩,?_⟩
       ·rintro _ wD ⟨b7,v17,b8,o2,hsD,h3,hCD⟩
        refine ⟨_,z,WL.sub ?_ hsD⟩
        refine Ar (vs:=[(I x21)]) hCD Ag ty3 z z z z (fac z<|fa0) z z (fun b9 w20 hC29 hB16=>?_)
        have hC30:=hC29.row0 (α:=Int)
        have hC31:=hC30.triv (Bt (x21))
        have hC32:=hC31.row1
        have hC33:=hC32.front 1 z
        dsimp only [List.eraseIdx,List.cons_append,List.nil_append,List.append_nil] at hC33
        have hC34:Ctx [] w0 w20 (Ad (.slice (some ⟨b9,0,none⟩) 1 1) ([x21]:List Int)::[Ad (.slice (some ⟨b7,0,none⟩) 1 1) ([x12]:Ta),Ad v7 x6,Ad v6 x5,Ah b5 [v4,v5],Ad v17 x20,Ad v5 x4,Ah b4 [v6,v7],Ah b3 [(I a3.1),u4]]):=hC33.rowOwn (by simp [maxLen])
        exact Aa<|⟨b7,v17,b8,o2,b9,⟨z,z,z,z,z,z,z,z,z,z,z,z,A6⟩,h3,hC34⟩
       refine ⟨⟨_,_,z,z,?_⟩,?_⟩
       ·rintro _ wD ⟨b7,b8,o2,hsD,h3,hCD⟩
        refine ⟨_,z,WL.sub ?_ hsD⟩
        refine AS (α:=Int) hCD 4 z (hCD.ro 0 z) (Ay _ _) Ag ty3 z hx2 z z z (fun v17 w19 hC28=>?_)
        try dsimp only [List.set] at hC28
        exact Aa<|⟨b7,v17,b8,o2,⟨z,z,z,z,z,z,z,z,z,z,z,z,A6⟩,h3,hC28⟩
       refine ⟨⟨_,_,z,z,?_⟩,?_⟩
       ·rintro _ wD ⟨b7,b8,o2,hsD,h3,hCD⟩
        refine ⟨_,z,WL.sub ?_ hsD⟩
        refine Ar (vs:=[(I x21)]) hCD Ag ty3 z z z z (fac z<|fa0) z z (fun b9 w20 hC29 hB16=>?_)
        have hC30:=hC29.row0 (α:=Int)
        have hC31:=hC30.triv (Bt (x21))
        have hC32:=hC31.row1
        have hC33:=hC32.front 1 z
        dsimp only [List.eraseIdx,List.cons_append,List.nil_append,List.append_nil] at hC33
        have hC34:Ctx [] w0 w20 (Ad (.slice (some ⟨b9,0,none⟩) 1 1) ([x21]:List Int)::[Ad (.slice (some ⟨b7,0,none⟩) 1 1) ([x12]:Ta),Ad v7 x6,Ad v6 x5,Ah b5 [v4,v5],Ad v4 x3,Ad v5 x4,Ah b4 [v6,v7],Ah b3 [(I a3.1),u4]]):=hC33.rowOwn (by simp [maxLen])
        exact Aa<|⟨b7,b8,o2,b9,⟨z,z,z,z,z,z,z,z,z,z,z,z,z,A6⟩,h3,hC34⟩
       refine ⟨⟨_,_,z,z,?_⟩,?_⟩
       ·rintro _ wD ⟨b7,b8,o2,b9,hsD,h3,hCD⟩
        refine ⟨_,z,WL.sub ?_ hsD⟩
        refine AS (α:=Int) hCD 5 z (hCD.ro 1 z) (Ay _ _) Ag ty3 z hx2 z z z (fun v17 w19 hC28=>?_)
        try dsimp only [List.set] at hC28
        exact Aa<|⟨b7,v17,b8,o2,b9,⟨z,z,z,z,z,z,z,z,z,z,z,z,A6⟩,h3,hC28⟩
       refine ⟨⟨_,_,z,z,?_⟩,?_⟩
       ·rintro _ wD ⟨b7,b8,o2,b9,hsD,h3,hCD⟩
        refine ⟨_,z,WL.sub ?_ hsD⟩
        exact Al hCD 4 z z Au z z<|Aa<|⟨b7,b8,o2,b9,⟨z,z,z,z,z,z,z,z,z,z,z,z,z,A6⟩,h3,hCD⟩
       refine ⟨⟨_,_,z,z,?_⟩,?_⟩
       ·rintro _ wD ⟨b8,o2,b9,hsD,h3,hCD⟩
        refine ⟨_,z,WL.sub ?_ hsD⟩
        refine Ar (vs:=[(I x12)]) hCD Ag ty3 z z z z (fac z<|fa0) z z (fun b7 w18 hC22 hB15=>?_)
        have hC23:=hC22.row0 (α:=Int)
        have hC24:=hC23.triv (Bt (x12))
        have hC25:=hC24.row1
        have hC26:=hC25.front 1 z
        dsimp only [List.eraseIdx,List.cons_append,List.nil_append,List.append_nil] at hC26
        have hC27:Ctx [] w0 w18 (Ad (.slice (some ⟨b7,0,none⟩) 1 1) ([x12]:List Int)::[Ad (.slice (some ⟨b9,0,none⟩) 1 1) ([x21]:Ta),Ad v7 x6,Ad v6 x5,Ah b5 [v4,v5],Ad v4 x3,Ad v5 x4,Ah b4 [v6,v7],Ah b3 [(I a3.1),u4]]):=hC26.rowOwn (by simp [maxLen])
        exact Aa<|have hC28:=hC27.f8;have hC29:=hC28.f8;have hC30:=hC29.f8;have hC31:=hC30.f8;have hC32:=hC31.f8;have hC33:=hC32.f8;have hC34:=hC33.f8;have hC35:=hC34.f7;have hC36:=hC35.f8;⟨b7,b8,o2,b9,⟨z,z,z,z,z,z,z,z,z,z,z,z,z,A6⟩,h3,hC36⟩
       refine ⟨⟨_,_,z,z,?_⟩,?_⟩
       ·rintro _ wD ⟨b7,b8,o2,b9,hsD,h3,hCD⟩
        refine ⟨_,z,WL.sub ?_ hsD⟩
        exact Al hCD 4 z z Au z z<|Aa<|⟨b7,b8,o2,b9,⟨z,z,z,z,z,z,z,z,z,z,z,z,z,A6⟩,h3,hCD⟩
       refine ⟨⟨_,_,z,z,?_⟩,?_⟩
       ·rintro _ wD ⟨b7,v17,b8,o2,hsD,h3,hCD⟩
        refine ⟨_,z,WL.sub ?_ hsD⟩
        refine Ar (vs:=[(I x21)]) hCD Ag ty3 z z z z (fac z<|fa0) z z (fun b9 w20 hC29 hB16=>?_)
        have hC30:=hC29.row0 (α:=Int)
        have hC31:=hC30.triv (Bt (x21))
        have hC32:=hC31.row1
        have hC33:=hC32.front 1 z
        dsimp only [List.eraseIdx,List.cons_append,List.nil_append,List.append_nil] at hC33
        have hC34:Ctx [] w0 w20 (Ad (.slice (some ⟨b9,0,none⟩) 1 1) ([x21]:List Int)::[Ad (.slice (some ⟨b7,0,none⟩) 1 1) ([x12]:Ta),Ad v7 x6,Ad v6 x5,Ah b5 [v4,v5],Ad v17 x20,Ad v5 x4,Ah b4 [v6,v7],Ah b3 [(I a3.1),u4]]):=hC33.rowOwn (by simp [maxLen])
        exact Aa<|⟨b7,v17,b8,o2,b9,⟨z,z,z,z,z,z,z,z,z,z,z,z,A6⟩,h3,hC34⟩
       refine ⟨⟨_,_,z,z,?_⟩,?_⟩
       ·rintro _ wD ⟨b7,v17,b8,o2,hsD,h3,hCD⟩
        refine ⟨_,z,WL.sub ?_ hsD⟩
        exact fd Bc Aq z z z z<|Aa<|⟨b7,v17,b8,o2,⟨z,z,z,z,z,z,z,z,z,z,z,z,z,A6⟩,h3,hCD⟩
       refine ⟨⟨_,_,z,z,?_⟩,?_⟩
       ·rintro _ wD ⟨b7,v17,b8,o2,hsD,h3,hCD⟩
        refine ⟨_,z,WL.sub ?_ hsD⟩
        refine AD ty3 h3 hCD.keep z z (fun v18 h4=>?_)
        obtain rfl:=Bo h4
        exact Aa<|⟨b7,v17,b8,o2,⟨z,z,z,z,z,z,z,z,z,z,z,z,z,A6⟩,h3,hCD⟩
       refine ⟨⟨_,_,z,z,?_⟩,?_⟩
       ·rintro _ wD ⟨b7,v17,b8,o2,b9,hsD,h3,hCD⟩
        refine ⟨_,z,WL.sub ?_ hsD⟩
        exact Al hCD 4 z z Au z z<|Aa<|⟨b7,v17,b8,o2,b9,⟨z,z,z,z,z,z,z,z,z,z,z,z,A6⟩,h3,hCD⟩
       refine ⟨⟨_,_,z,z,?_⟩,?_⟩
       ·rintro _ wD ⟨b7,b8,o2,b9,hsD,h3,hCD⟩
        refine ⟨_,z,WL.sub ?_ hsD⟩
        refine AS (α:=Int) hCD 5 z (hCD.ro 1 z) (Ay _ _) Ag ty3 z hx2 z z z (fun v17 w19 hC28=>?_)
        try dsimp only [List.set] at hC28
        exact Aa<|⟨b7,v17,b8,o2,b9,⟨z,z,z,z,z,z,z,z,z,z,z,z,A6⟩,h3,hC28⟩
       refine ⟨⟨_,_,z,z,?_⟩,?_⟩
       ·rintro _ wD ⟨b7,v17,b8,o2,b9,hsD,h3,hCD⟩
        refine ⟨_,z,WL.sub ?_ hsD⟩
        refine AS (α:=Int) hCD 6 z (hCD.ro 0 z) (Ay _ _) Ag ty3 z hx4 z z z (fun v19 w21 hC35=>?_)
        try dsimp only [List.set] at hC35
        exact Aa<|⟨b7,v17,b8,o2,b9,v19,⟨z,z,z,z,z,z,z,z,z,z,z,A6⟩,h3,hC35⟩
       refine ⟨⟨_,_,z,z,?_⟩,?_⟩
       ·rintro _ wD ⟨b7,v17,b8,o2,b9,hsD,h3,hCD⟩
        refine ⟨_,z,WL.sub ?_ hsD⟩
        exact fd Bc Aq z z z z<|Aa<|⟨b7,v17,b8,o2,b9,⟨z,z,z,z,z,z,z,z,z,z,z,z,z,A6⟩,h3,hCD⟩
       refine ⟨⟨_,_,z,z,?_⟩,?_⟩
       ·rintro _ wD ⟨b7,v17,b8,o2,hsD,h3,hCD⟩
        refine ⟨_,z,WL.sub ?_ hsD⟩
        refine Ar (vs:=[(I x21)]) hCD Ag ty3 z z z z (fac z<|fa0) z z (fun b9 w20 hC29 hB16=>?_)
        have hC30:=hC29.row0 (α:=Int)
        have hC31:=hC30.triv (Bt (x21))
        have hC32:=hC31.row1
        have hC33:=hC32.front 1 z
        dsimp only [List.eraseIdx,List.cons_append,List.nil_append,List.append_nil] at hC33
        have hC34:Ctx [] w0 w20 (Ad (.slice (some ⟨b9,0,none⟩) 1 1) ([x21]:List Int)::[Ad (.slice (some ⟨b7,0,none⟩) 1 1) ([x12]:Ta),Ad v7 x6,Ad v6 x5,Ah b5 [v4,v5],Ad v17 x20,Ad v5 x4,Ah b4 [v6,v7],Ah b3 [(I a3.1),u4]]):=hC33.rowOwn (by simp [maxLen])
        exact Aa<|⟨b7,v17,b8,o2,b9,⟨z,z,z,z,z,z,z,z,z,z,z,z,z,A6⟩,h3,hC34⟩
       refine ⟨⟨_,_,z,z,?_⟩,?_⟩
       ·rintro _ wD ⟨b7,v17,b8,o2,b9,v19,hsD,h3,hCD⟩
        refine ⟨_,z,WL.sub ?_ hsD⟩
        exact fd Bc Aq z z z z<|Aa<|⟨b7,v17,b8,o2,b9,v19,⟨z,z,z,z,z,z,z,z,z,z,z,z,A6⟩,h3,hCD⟩
       refine ⟨⟨_,_,z,z,?_⟩,?_⟩
       ·rintro _ wD ⟨b7,v17,b8,o2,b9,hsD,h3,hCD⟩
        refine ⟨_,z,WL.sub ?_ hsD⟩
        refine AS (α:=Int) hCD 6 z (hCD.ro 0 z) (Ay _ _) Ag ty3 z hx4 z z z (fun v19 w21 hC35=>?_)
        try dsimp only [List.set] at hC35
        exact Aa<|⟨b7,v17,b8,o2,b9,v19,⟨z,z,z,z,z,z,z,z,z,z,z,z,A6⟩,h3,hC35⟩
       exact A6
      rintro _ wD ⟨b7,v17,b8,o2,b9,v19,hsD,h3,hCD⟩
      refine WA.sub ?_ hsD
      refine oe 15 z<|B2 (cs':=[v17,v5]) hCD 4 z z (Br (hCD.ro 5 z)) z Aq z z fun w22 hC36 hKp3=>?_
      try dsimp only [List.set] at hC36
      refine Aa<|tf 16 Bc Aq z z z z z<|oe 17 z<|B2 (cs':=[v17,v19]) hC36 4 z z (Br (hC36.ro 6 z)) z Aq z z fun w23 hC37 hKp4=>?_
      try dsimp only [List.set] at hC37
      refine Aa<|dn<|?_
      have hC45:=hC37.f8.f8.f8.f8.f8.f8.f8.h7
      exact nS<|⟨v17,x20,v19,x22,Ab hr8,z,hC45⟩
     rintro l5 _ w16 hs5 ⟨v15,x18,v16,x19,rfl,rfl,hC20⟩
     try dsimp only at hr7
     obtain rfl:=Ab hr7
     exact Cq (l2:=[(5,(ptr b3 0)),(6,(ptr b4 0)),(8,(ptr b5 0)),(9,(I x7)),(10,(I x12)),(38,u3),(39,(I (List.length a2.2:Int))),(40,(I x7))]) hs5 ⟨z,z,z,z,z,z,z,z,A6⟩<|⟨v15,x18,v16,x19,z,z,hC20⟩
    exact A5<|nS<|⟨v4,x3,v5,x4,Ab hr7,z,hC16⟩
   rintro _ w15 ⟨v13,x16,v14,x17,rfl,rfl,hC19⟩
   try dsimp only at hL1
   refine A0<|W_drawn 9 z hmix fun w24 hB17=>have hC46:=hC19.grow hB17;tm 1 z z z<|tf 3 AB Aq z z z z z<|tm 5 z z z<|be hL1 fun x23 hr9 hL1=>be hL1 fun x24 hx5 hL1=>wAS (l':=[(5,(ptr b3 0)),(6,(ptr b4 0)),(8,(ptr b5 0)),(9,(I x7)),(10,(I x12)),(38,u3),(39,(I (List.length a2.2:Int))),(40,(I x7)),(70,(I x12)),(72,(ptr b3 1)),(74,(I x7))]) ⟨z,z,z,z,z,z,z,z,z,z,z,A6⟩<|Bg [⟨0,[],fun vs=>AQ (.agg #[v13,v14]),[]⟩,⟨2,[],fun vs=>AQ (I x23),[]⟩,⟨4,[],fun vs=>AQ u4,[]⟩,⟨6,[],fun vs=>Cd [] w0 x24,[]⟩,⟨7,[],fun vs=>AQ (I x24),[]⟩] [[],[0],[],[4],[6]] 1 z (by kernel_rfl) (by kernel_rfl) z ?_ ?_
   ·refine An z ?_ ?_
    ·intro w26 hB19
     refine At<|⟨_,z,?_⟩
     exact Az [v13,v14] (hC46.grow hB19) 2 z z z B1 Ba z z<|Aa<|A1 (Aj _ _) z z ⟨z,z⟩
    refine An z ?_ ?_
    ·intro w26 hB19
     refine AG z z z ?_
     rintro _ _ ⟨rfl,rfl⟩ _
     refine At<|⟨_,z,?_⟩
     exact ci Tryz.call210 z z (c_M_ValueOf (x16,x17) v13 ((hC46.grow hB19).ro 3 z) v14 ((hC46.grow hB19).ro 4 z) x12 x23 hr9) fun w25 hB18=>Aa<|A1 hB18 z z ⟨z,z⟩
    refine An z ?_ ?_
    ·intro w26 hB19
     refine At<|⟨_,z,?_⟩
     exact Al (hC46.grow hB19) 6 z z Au z z<|Aa<|A1 (Aj _ _) z z ⟨z,z⟩
    refine An z ?_ ?_
    ·intro w26 hB19
     refine AG z z z ?_
     rintro _ _ ⟨rfl,rfl⟩ _
     refine At<|⟨_,z,?_⟩
     exact A9 Ag ty3 g4 hx5 z z z fun b10 o3 h5=>Aa<|A1 (Aj _ _) z z ⟨z,_,_,z,h5⟩
    refine An z ?_ ?_
    ·intro w26 hB19
     refine AG z z z ?_
     rintro _ _ ⟨rfl,b10,o3,rfl,h5⟩ _
     refine At<|⟨_,z,?_⟩
     refine AD ty3 h5 (hC46.keep.then hB19) z z (fun v20 h6=>?_)
     obtain rfl:=Bo h6
     exact Aa<|A1 (Aj _ _) z z ⟨z,z⟩
    exact AX
   intro w27 hB20
   refine Ap z z z ?_
   rintro _ _ ⟨rfl,rfl⟩
   refine Ap z z z ?_
   rintro _ _ ⟨rfl,rfl⟩
   refine Ap z z z ?_
   rintro _ _ ⟨rfl,rfl⟩
   refine Ap z z z ?_
   rintro _ _ ⟨rfl,b10,o3,rfl,h5⟩
   refine Ap z z z ?_
   rintro _ _ ⟨rfl,rfl⟩
   refine Bm fun hn2 hb2=>have hC47:=hC46.grow hB20;tk 8 z z (CM z z)<|BQ z z z<|Aa<|dn<|Am<|wc hL1 z (fun hL1=>?_) fun hL1=>?_
   ·refine Ac<|B4 (vs:=[]) z z z built149<|AE (cs':=[(.slice none 0 0),(.slice none 0 0)]) (new:=[(.slice none 0 0),(.slice none 0 0)]) hC47 5 z z (fac z<|fac z<|fa0) z Ba z z fun w28 hC48 hKp5=>?_
    try dsimp only [List.set] at hC48
    refine Af z z<|Aa<|AF<|AT<|Ax<|Ax<|AT<|Ax<|Ax<|?_
    obtain rfl:=Ab hL1
    dsimp only at hF
    obtain rfl:=Ab hF
    refine De z (rv_cell_agg (cs':=[(.slice none 0 0),(.slice none 0 0)]) hC48 (i:=5) z z z B1 Ba z) (rv_tmp z) ?_
    have hC49:=hC48.triv (BN (false))
    have hC51:=hC49.triv (nil_val (α:=Int))
    have hC52:=hC51.triv (nil_val (α:=Int))
    have hC50:=Ce (.slice none 0 0) ([]) (.slice none 0 0) ([]) hC52
    exact ⟨_,z,res2_of hC50⟩
   exact A5<|AN<|Am<|AL<|AW z z z<|Ae z z<|Aa<|nS<|⟨k1,Aw _,v13,x16,v14,x17,v6,x5,v7,x6,w64 (x7+1),z,hC47,hL1⟩
  refine Bi (A2 (A2 (AM ?_)))
  have hC59:=hC15.f5.f5.f5.f5.f5.f5.h6
  exact nS<|⟨v4,x3,v5,x4,v6,x5,v7,x6,Ab hL1,z,hC59⟩
 rintro _ w29 ⟨v8,x8,v9,x9,v10,x10,v11,x11,rfl,rfl,hC70⟩
 try dsimp only at hF
 refine Ac<|Az [v8,v9] hC70 2 z z z B1 Ba z z<|AE (cs':=[v8,v9]) (new:=[v8,v9]) hC70 5 z z (fac (Br (hC70.ro 3 z))<|fac (Br (hC70.ro 4 z))<|fa0) z Ba z z fun w30 hC71 hKp6=>?_
 try dsimp only [List.set] at hC71
 refine Af z z<|Aa<|AF<|?_
 obtain rfl:=Ab hF
 refine De z (rv_cell_agg (cs':=[v8,v9]) hC71 (i:=5) z z z B1 Ba z) (rv_tmp z) ?_
 have hC72:=hC71.triv (BN (true))
 have hC75:=hC72.f5.f5
 have hC73:=Ce v8 x8 v9 x9 hC75
 exact ⟨_,z,res2_of hC73⟩
theorem c_M_matchAll {w0:World} (a1:Tk) (u1:Value) (g1:RO [] w0 u1 a1) (a2:Tb) (u2:Value) (g2:RO [] w0 u2 a2.2) (a3:Tc) (u3:Value) (g3:RO [] w0 u3 a3) (rr:Tk) (hF:M.matchAll a1 a2 a3=some rr) :
 Calls Tryz.prog 178 [u1,(.agg #[(I a2.1),u2]),u3].toArray w0 fun e w'=>∃v,e=.returned v∧Res w0 rr v w':=by
 refine Av Tryz.func178 z z ?_
 have hC0:=A3 w0
 unfold M.matchAll at hF
 refine Ac<|Be (cs:=[(I a2.1),u2]) hC0 z z z fun b1 w1 hC1 hB1 hN1=>Af z z<|Aa<|Ac<|Ar (vs:=[]) hC1 Bz ty149 z z z z (by simp) z z fun b2 w2 hC2 hB2=>?_
 have hC5:=hC2.rowE (α:=Th)
 refine Af z z<|Aa<|A0<|Ac<|Ae z z<|AH Bz g1 z z<|Ae z z<|Aa<|be hF fun r1 hr1 hF=>wN (fun l w=>∃v2:Value,∃x3:Tk,x3=r1∧l=[(7,v2)]∧Ctx [] w0 w [Ad v2 x3]) ?_ ?_
 ·refine A4<|wT<|Bj (fun k l w=>∃v1:Value,∃x1:Tk,∃x2:Int,l=[(2,u3),(4,(ptr b1 0)),(7,v1),(15,u1),(16,(I (List.length a1:Int))),(17,(I x2))]∧Ctx [] w0 w [Ad v1 x1,Ah b1 [(I a2.1),u2]]∧M.matchAll_l1 a1 a3 a2 k x1 x2=some r1) FUEL ⟨(.slice (some ⟨b2,0,none⟩) 0 0),([]:List Th),0,z,hC5,hr1⟩<|?_
  clear hr1
  rintro k1 _ w3 ⟨v1,x1,x2,rfl,hC6,hL1⟩
  obtain _|k1:=k1<;>rw [M.matchAll_l1] at hL1
  ·cases hL1
  refine Ac<|AZ z z z<|Aa<|A0<|wc hL1 z (fun hL1=>?_) fun hL1=>?_
  ·refine A5<|Am<|A0<|A4<|Ac<|be hL1 fun x4 hx1 hL1=>A9 Bz ty149 g1 hx1 z z z fun b3 o1 h1=>AD ty149 h1 hC6.keep z z fun v3 h2=>?_
   obtain ⟨v4,v5,rfl,h3,h4⟩:=C6 h2
   refine Bq hC6 zero149 z z fun b4 w4 hC7 hB4 hN2=>AE (cs':=[v4,v5]) (new:=[v4,v5]) hC7 0 z z (fac (Br h3)<|fac (Br h4)<|fa0) z Ba z z fun w5 hC8 hKp1=>?_
   try dsimp only [List.set] at hC8
   have hk1:=AV (Ao hB4) hN2 hKp1
   refine Aa<|Ac<|Ae z z<|AH Ak g3 z z<|Ae z z<|Aa<|be hL1 fun r2 hr2 hL1=>wB (fun l w=>∃v7:Value,∃x7:Tk,x7=r2∧l=[(2,u3),(4,(ptr b1 0)),(7,v7),(15,u1),(16,(I (List.length a1:Int))),(17,(I x2))]∧Ctx [] w0 w [Ad v7 x7,Ah b1 [(I a2.1),u2]]) ?_ ?_
   ·refine A4<|wT<|Bj (fun k l w=>∃v6:Value,∃x5:Tk,∃x6:Int,l=[(2,u3),(4,(ptr b1 0)),(7,v6),(9,(ptr b4 0)),(15,u1),(16,(I (List.length a1:Int))),(17,(I x2)),(21,u3),(22,(I (List.length a3:Int))),(23,(I x6))]∧Ctx [] w0 w [Ah b4 [v4,v5],Ad v6 x5,Ah b1 [(I a2.1),u2]]∧M.matchAll_l2 a3 x4 a2 k x5 x6=some r2) FUEL ⟨v1,x1,0,z,hC8,hr2⟩<|?_
    clear hr2
    rintro k2 _ w6 ⟨v6,x5,x6,rfl,hC9,hL2⟩
    obtain _|k2:=k2<;>rw [M.matchAll_l2] at hL2
    ·cases hL2
    refine Ac<|AZ z z z<|Aa<|A0<|wc hL2 z (fun hL2=>?_) fun hL2=>?_
    ·refine A5<|Am<|A0<|A4<|Ac<|be hL2 fun x8 hx2 hL2=>A9 Ak ty77 g3 hx2 z z z fun b5 o2 h5=>AD ty77 h5 hC9.keep z z fun v8 h6=>?_
     obtain ⟨v9,rfl,h7⟩:=BE h6
     refine Bq hC9 zero77 z z fun b6 w7 hC10 hB6 hN3=>AE (cs':=[(I x8.1),v9]) (new:=[(I x8.1),v9]) hC10 0 z z (fac z<|fac (Br h7)<|fa0) z Bb z z fun w9 hC11 hKp2=>?_
     try dsimp only [List.set] at hC11
     have hk2:=AV (Ao hB6) hN3 hKp2
     refine Aa<|Ac<|Az [v4,v5] hC11 1 z z z B1 Ba z z<|Az [(I a2.1),u2] hC11 3 z z z CH Cl z z<|Az [(I x8.1),v9] hC11 0 z z z Bw Bb z z<|be hL2 fun x9 hr3 hL2=>AA Tryz.call211 z z (c_M_MatchAtom (x4.1,x4.2) v4 (h3.now hC11.keep) v5 (h4.now hC11.keep) (a2.1,a2.2) u2 (g2.now hC11.keep) (x8.1,x8.2) v9 (h7.now hC11.keep) x9 hr3)<|?_
     rintro _ w10 ⟨hB7,v10,v11,F1,F2,rfl,hv1,hv2,hn1,hb1⟩
     obtain ⟨rfl,rfl⟩:=val_bool hv2
     have hC12:=hC11.pushL hB7 (Bs:=[Ad v10 x9.1]) (Fs:=[F1]) ⟨F1,_,z,hv1,z⟩ (by simpa using hn1) (fun b h=>hb1 b (by simpa using h))
     obtain ⟨v12,v13,rfl,hC13⟩:=st149_own hC12
     refine Ae z z<|Bk z z z<|Bk z z z<|Bq hC13 zero149 z z fun b7 w11 hC14 hB8 hN4=>AE (cs':=[v12,v13]) (new:=[v12,v13]) hC14 0 z z (fac (Br (hC14.ro 1 z))<|fac (Br (hC14.ro 2 z))<|fa0) z Ba z z fun w12 hC15 hKp3=>?_
     try dsimp only [List.set] at hC15
     have hk3:=AV ((hk2.then hB7).then hB8) (Bl (hk2.then hB7).size hN4) hKp3
     have hk4:=AV ((Ao hB7).then hB8) (Bl (Ao hB7).size hN4) hKp3
     have hk5:=AV (Ao hB8) hN4 hKp3
     refine Af z z<|Aa<|Ac<|Ae z z<|Aa<|be hL2 fun r3 hr4 hL2=>wB (fun l w=>∃v14:Value,∃x10:Tk,x10=r3∧l=[(2,u3),(4,(ptr b1 0)),(7,v14),(9,(ptr b4 0)),(15,u1),(16,(I (List.length a1:Int))),(17,(I x2)),(21,u3),(22,(I (List.length a3:Int))),(23,(I x6))]∧Ctx [] w0 w [Ah b4 [v4,v5],Ad v14 x10,Ah b1 [(I a2.1),u2]]) ?_ ?_
     ·refine wc hr4 z (fun hr4=>?_) fun hr4=>?_
      ·refine AL<|Ae z z<|Az [v12,v13] hC15 0 z z z B1 Ba z z<|Ar (vs:=[(.agg #[v12,v13])]) hC15 Bz ty149 z z z z (fac z<|fa0) z z fun b8 w14 hC17 hB10=>?_
       have hC18:=hC17.row0 (α:=Th)
       have hC21:=hC18.f4.f4
       have hC19:=Ce v12 x9.1.1 v13 x9.1.2 hC21
       have hC22:=hC19.row1
       have hC23:=hC22.front 1 z
       dsimp only [List.eraseIdx,List.cons_append,List.nil_append,List.append_nil] at hC23
       have hC24:Ctx [] w0 w14 (Ad (.slice (some ⟨b8,0,none⟩) 1 1) ([(x9.1.1,x9.1.2)]:List Th)::[Ah b7 [v12,v13],Ah b6 [(I x8.1),v9],Ah b4 [v4,v5],Ad v6 x5,Ah b1 [(I a2.1),u2]]):=hC23.rowOwn (by simp [maxLen])
       refine be hr4 fun x11 hx3 hr4=>Bf hC24 3 z Bz ty149 z hx3 z z z fun v15 w15 hC25=>?_
       try dsimp only [List.set] at hC25
       refine Af z z<|Aa<|?_
       have hC30:=hC25.f4.f4.f4.h3
       exact nS<|⟨v15,x11,Ab hr4,z,hC30⟩
      refine A5 ?_
      have hC34:=hC15.f6.f6.f6.h3
      exact nS<|⟨v6,x5,Ab hr4,z,hC34⟩
     rintro _ w13 ⟨v14,x10,rfl,rfl,hC16⟩
     exact AL<|AW z z z<|Ae z z<|Aa<|nS<|⟨k2,Aw _,v14,x10,w64 (x6+1),z,hC16,hL2⟩
    refine Bi (A2 (A2 (AM ?_)))
    have hC37:=hC9.f2.f2.h2
    exact nS<|⟨v6,x5,Ab hL2,z,hC37⟩
   rintro _ w16 ⟨v7,x7,rfl,rfl,hC38⟩
   exact AL<|AW z z z<|Ae z z<|Aa<|nS<|⟨k1,Aw _,v7,x7,w64 (x2+1),z,hC38,hL1⟩
  refine Bi (A2 (A2 (AM ?_)))
  have hC39:=hC6.h1
  exact nS<|⟨v1,x1,Ab hL1,z,hC39⟩
 rintro _ w17 ⟨v2,x3,rfl,rfl,hC40⟩
 exact Ac<|Ae z z<|Af z z<|Aa<|AF<|rO hF z z hC40 0 z
theorem c_M_BindingsOf {w0:World} (a1:Tl) (u1:Value) (g1:RO [] w0 u1 a1.1) (u2:Value) (g2:RO [] w0 u2 a1.2) (a2:Tc) (u3:Value) (g3:RO [] w0 u3 a2) (rr:Tk) (hF:M.BindingsOf a1 a2=some rr) :
 Calls Tryz.prog 125 [(.agg #[u1,u2]),u3].toArray w0 fun e w'=>∃v,e=.returned v∧Res w0 rr v w':=by
 refine Av Tryz.func125 z z ?_
 have hC0:=A3 w0
 unfold M.BindingsOf at hF
 refine Ac<|Be (cs:=[u1,u2]) hC0 z z z fun b1 w1 hC1 hB1 hN1=>Af z z<|Aa<|Ac<|B4 (vs:=[]) z z z built149<|Ar (vs:=[(.agg #[(.slice none 0 0),(.slice none 0 0)])]) hC1 Bz ty149 z z z z (fac z<|fa0) z z fun b2 w2 hC2 hB2=>?_
 have hC3:=hC2.row0 (α:=Th)
 have hC5:=hC3.triv (nil_val (α:=Int))
 have hC6:=hC5.triv (nil_val (α:=Int))
 have hC4:=Ce (.slice none 0 0) ([]) (.slice none 0 0) ([]) hC6
 have hC7:=hC4.row1
 have hC8:=hC7.front 1 z
 dsimp only [List.eraseIdx,List.cons_append,List.nil_append,List.append_nil] at hC8
 have hC9:Ctx [] w0 w2 (Ad (.slice (some ⟨b2,0,none⟩) 1 1) ([([],[])]:List Th)::[Ah b1 [u1,u2]]):=hC8.rowOwn (by simp [maxLen])
 refine Af z z<|Aa<|A0<|Ac<|fd Bn BB z z z z<|Al hC9 1 z z BK z z<|AH By g2 z z<|Ae z z<|Aa<|be hF fun r1 hr1 hF=>wN (fun l w=>∃v2:Value,∃x3:Tk,x3=r1∧l=[(5,v2)]∧Ctx [] w0 w [Ad v2 x3]) ?_ ?_
 ·refine A4<|have hC15:=hC9.h1;wT<|Bj (fun k l w=>∃v1:Value,∃x1:Tk,∃x2:Int,l=[(1,u3),(5,v1),(11,u2),(12,(I (List.length a1.2:Int))),(13,(I x2))]∧Ctx [] w0 w [Ad v1 x1]∧M.BindingsOf_l1 a1 a2 k x1 x2=some r1) FUEL ⟨(.slice (some ⟨b2,0,none⟩) 1 1),[([],[])],0,z,hC15,hr1⟩<|?_
  clear hr1
  rintro k1 _ w3 ⟨v1,x1,x2,rfl,hC10,hL1⟩
  obtain _|k1:=k1<;>rw [M.BindingsOf_l1] at hL1
  ·cases hL1
  refine Ac<|AZ z z z<|Aa<|A0<|wc hL1 z (fun hL1=>?_) fun hL1=>?_
  ·refine A5<|Am<|A0<|A4<|Ac<|be hL1 fun x4 hx1 hL1=>A9 By ty93 g2 hx1 z z z fun b3 o1 h1=>AD ty93 h1 hC10.keep z z fun v3 h2=>?_
   obtain ⟨v4,rfl,h3⟩:=ro_st93 h2
   refine Bq hC10 zero93 z z fun b4 w4 hC11 hB4 hN2=>AE (cs':=[(I x4.1),v4]) (new:=[(I x4.1),v4]) hC11 0 z z (fac z<|fac (Br h3)<|fa0) z Cl z z fun w5 hC12 hKp1=>?_
   try dsimp only [List.set] at hC12
   have hk1:=AV (Ao hB4) hN2 hKp1
   refine Aa<|AL<|Ae z z<|Az [(I x4.1),v4] hC12 0 z z z CH Cl z z<|Ae z z<|be hL1 fun x5 hr2 hL1=>AA Tryz.call178 z z (c_M_matchAll x1 v1 ((hC12.ro 1 z).now (Ay _ _)) (x4.1,x4.2) v4 (h3.now hC12.keep) a2 u3 (g3.now hC12.keep) x5 hr2)<|?_
   rintro v5 w6 ⟨hB5,F1,hv1,hn1,hb1⟩
   have hC13:=hC12.push hB5 (A:=Ad v5 x5) hv1 hn1 hb1
   exact Af z z<|Aa<|AN<|Am<|AL<|AW z z z<|Ae z z<|Aa<|have hC14:=hC13.h1;nS<|⟨k1,Aw _,v5,x5,w64 (x2+1),z,hC14,hL1⟩
  refine Bi (A2 (A2 (AM ?_)))
  exact nS<|⟨v1,x1,Ab hL1,z,hC10⟩
 rintro _ w7 ⟨v2,x3,rfl,rfl,hC16⟩
 exact Ac<|Ae z z<|Af z z<|Aa<|AF<|rO hF z z hC16 0 z
theorem c_M_answers {w0:World} (a1:Tl) (u1:Value) (g1:RO [] w0 u1 a1.1) (u2:Value) (g2:RO [] w0 u2 a1.2) (a2:Tc) (u3:Value) (g3:RO [] w0 u3 a2) (rr:Tj) (hF:M.answers a1 a2=some rr) :
 Calls Tryz.prog 68 [(.agg #[u1,u2]),u3].toArray w0 fun e w'=>∃v,e=.returned v∧Res w0 rr v w':=by
 refine Av Tryz.func68 z z ?_
 have hC0:=A3 w0
 unfold M.answers at hF
 refine Ac<|Be (cs:=[u1,u2]) hC0 z z z fun b1 w1 hC1 hB1 hN1=>Af z z<|Aa<|A0<|W_drawn 6 z hmix fun w2 hB2=>have hC2:=hC1.grow hB2;tm 2 z z z<|be hF fun x1 hr1 hF=>wAS (l':=[(0,(.agg #[u1,u2])),(1,u3),(2,(ptr b1 0)),(4,(.slice none 0 0)),(7,u3)]) ⟨z,z,z,z,z,A6⟩<|Bg [⟨0,[],fun vs=>AQ (.agg #[u1,u2]),[]⟩,⟨1,[],fun vs=>AQ (.agg #[u1,u2]),[]⟩,⟨3,[],fun vs=>BS x1,[]⟩] [[],[],[1]] 2 z (by kernel_rfl) (by kernel_rfl) z ?_ ?_
 ·refine An z ?_ ?_
  ·intro w4 hB4
   refine At<|⟨_,z,?_⟩
   exact Az [u1,u2] (hC2.grow hB4) 0 z z z BA B0 z z<|Aa<|A1 (Aj _ _) z z ⟨z,z⟩
  refine An z ?_ ?_
  ·intro w4 hB4
   refine At<|⟨_,z,?_⟩
   exact Az [u1,u2] (hC2.grow hB4) 0 z z z BA B0 z z<|Aa<|A1 (Aj _ _) z z ⟨z,z⟩
  refine An z ?_ ?_
  ·intro w4 hB4
   refine AG z z z ?_
   rintro _ _ ⟨rfl,rfl⟩ _
   refine At<|⟨_,z,?_⟩
   refine AA Tryz.call125 z z (c_M_BindingsOf (a1.1,a1.2) u1 (g1.now (hC2.keep.then hB4)) u2 (g2.now (hC2.keep.then hB4)) a2 u3 (g3.now (hC2.keep.then hB4)) x1 hr1) ?_
   rintro v1 w3 ⟨hB3,F1,hv1,hn1,hb1⟩
   exact Aa<|BZ hB3 z z hv1 hn1 hb1 (Val.inh hv1)
  exact AX
 intro w5 hB5
 refine Ap z z z ?_
 rintro _ _ ⟨rfl,rfl⟩
 refine Ap z z z ?_
 rintro _ _ ⟨rfl,rfl⟩
 refine Ap z z z fun v1 F1 hv1=>Bm fun hn2 hb2=>?_
 have hC3:=hC2.pushL hB5 (Bs:=[Ad v1 x1]) (Fs:=[F1]) ⟨F1,_,z,hv1,z⟩ (by simpa using hn2) (fun b h=>(hb2 b (by simpa using h)).1)
 refine be hF fun x2 hr2 hF=>oe 4 z<|AA Tryz.call124 z z (c_M_tuplesOf (a1.1,a1.2) u1 (g1.now hC3.keep) u2 (g2.now hC3.keep) x1 v1 ((hC3.ro 0 z).now (Ay _ _)) x2 hr2)<|?_
 rintro v2 w6 ⟨hB6,F2,hv2,hn3,hb3⟩
 have hC4:=hC3.push hB6 (A:=Ad v2 x2) hv2 hn3 hb3
 exact Aa<|ta 5 z z z<|dn<|Am<|AF<|rO hF z z hC4 0 z
theorem c_M_TrustedAnswers {w0:World} (a1:Ta) (u1:Value) (g1:RO [] w0 u1 a1) (a2:Tf) (u2:Value) (g2:RO [] w0 u2 a2) (a3:Tl) (u3:Value) (g3:RO [] w0 u3 a3.1) (u4:Value) (g4:RO [] w0 u4 a3.2) (a4:Tg) (u5:Value) (g5:RO [] w0 u5 a4) (rr:Tj) (hF:M.TrustedAnswers a1 a2 a3 a4=some rr) :
 Calls Tryz.prog 25 [u1,u2,(.agg #[u3,u4]),u5].toArray w0 fun e w'=>∃v,e=.returned v∧Res w0 rr v w':=by
 refine Av Tryz.func25 z z ?_
 have hC0:=A3 w0
 unfold M.TrustedAnswers at hF
 refine Ac<|Be (cs:=[u3,u4]) hC0 z z z fun b1 w1 hC1 hB1 hN1=>Af z z<|Aa<|A0<|Ac<|Ae z z<|Az [u3,u4] hC1 0 z z z BA B0 z z<|be hF fun x1 hr1 hF=>cb Tryz.call67 z z (c_M_IsQuery a1 u1 (g1.now hC1.keep) (a3.1,a3.2) u3 (g3.now hC1.keep) u4 (g4.now hC1.keep) x1 hr1) fun w2 hB2=>have hC2:=hC1.grow hB2;Bv z z<|Aa<|wc hF z (fun hF=>?_) fun hF=>?_
 ·refine Ac<|Af z z<|Aa<|AF<|Ax<|?_
  obtain rfl:=Ab hF
  exact BI z z<|⟨_,z,nil_res hC2⟩
 refine A5<|Am<|A0<|W_drawn 7 z hmix fun w3 hB3=>have hC3:=hC2.grow hB3;tm 1 z z z<|tm 2 z z z<|tm 3 z z z<|be hF fun x2 hr2 hF=>wAS (l':=[(0,u1),(1,u2),(2,(.agg #[u3,u4])),(3,u5),(6,(ptr b1 0)),(8,(.slice none 0 0)),(9,u1),(10,(.agg #[u3,u4])),(11,(.bool x1)),(12,(.bool (!x1))),(14,u1),(15,u2),(16,u5)]) ⟨z,z,z,z,z,z,z,z,z,z,z,z,z,A6⟩<|Bg [⟨0,[],fun vs=>AQ (.agg #[u3,u4]),[]⟩,⟨4,[],fun vs=>BS x2,[]⟩] [[],[]] 2 z (by kernel_rfl) (by kernel_rfl) z ?_ ?_
 ·refine An z ?_ ?_
  ·intro w5 hB5
   refine At<|⟨_,z,?_⟩
   exact Az [u3,u4] (hC3.grow hB5) 0 z z z BA B0 z z<|Aa<|A1 (Aj _ _) z z ⟨z,z⟩
  refine An z ?_ ?_
  ·intro w5 hB5
   refine At<|⟨_,z,?_⟩
   refine AA Tryz.call13 z z (c_M_TrustedFacts a1 u1 (g1.now (hC3.keep.then hB5)) a2 u2 (g2.now (hC3.keep.then hB5)) a4 u5 (g5.now (hC3.keep.then hB5)) x2 hr2) ?_
   rintro v1 w4 ⟨hB4,F1,hv2,hn1,hb1⟩
   exact Aa<|BZ hB4 z z hv2 hn1 hb1 (Val.inh hv2)
  exact AX
 intro w6 hB6
 refine Ap z z z ?_
 rintro _ _ ⟨rfl,rfl⟩
 refine Ap z z z fun v1 F1 hv2=>Bm fun hn2 hb2=>?_
 have hC4:=hC3.pushL hB6 (Bs:=[Ad v1 x2]) (Fs:=[F1]) ⟨F1,_,z,hv2,z⟩ (by simpa using hn2) (fun b h=>(hb2 b (by simpa using h)).1)
 refine be hF fun x3 hr3 hF=>oe 5 z<|AA Tryz.call68 z z (c_M_answers (a3.1,a3.2) u3 (g3.now hC4.keep) u4 (g4.now hC4.keep) x2 v1 ((hC4.ro 0 z).now (Ay _ _)) x3 hr3)<|?_
 rintro v2 w7 ⟨hB7,F2,hv3,hn3,hb3⟩
 have hC5:=hC4.push hB7 (A:=Ad v2 x3) hv3 hn3 hb3
 exact Aa<|ta 6 z z z<|dn<|Am<|AF<|rO hF z z hC5 0 z
theorem c_S_IsTerm {w0:World} (a1:Int) (rr:Bool) (hF:S.IsTerm a1=some rr) :
 Calls Tryz.prog 179 [(I a1)].toArray w0 fun e w'=>∃v,e=.returned v∧Res w0 rr v w':=by
 refine Av Tryz.func179 z z ?_
 have hC0:=A3 w0
 unfold S.IsTerm at hF
 refine Ac<|Af z z<|Aa<|be hF fun r1 hr1 hF=>B9 (fun l w=>∃x1:Bool,x1=r1∧l=[(2,(.bool x1))]∧Below w0.heap.size w0 w∧Ctx [] w0 w []) ?_ ?_
 ·refine AL<|Ae z z<|be hr1 fun x2 hr2 hr1=>cb BH z z (c_S_l1In a1 0 9 x2 hr2) fun w2 hB2=>have hC2:=hC0.grow hB2;Ae z z<|wk hr1 (fun hr1=>?_) fun hr1=>?_
  ·exact gs z z z z<|gs z z z z<|AJ z z z<|Af z z<|Aa<|nS<|⟨true,Ab hr1,z,(Ao hB2).below,hC2⟩
  exact Ai z z<|Ae z z<|be hr1 fun x3 hr3 hr1=>Ai z z<|cb CU z z (c_S_IsVar a1 x3 hr3) fun w3 hB3=>have hC3:=hC2.grow hB3;AK z z z<|Af z z<|Aa<|nS<|⟨x3,Ab hr1,z,((Ao hB2).then hB3).below,hC3⟩
 rintro _ w1 ⟨x1,rfl,rfl,hB1,hC1⟩
 exact AF<|rB hF z z hC1
end Go.Gx.Px
