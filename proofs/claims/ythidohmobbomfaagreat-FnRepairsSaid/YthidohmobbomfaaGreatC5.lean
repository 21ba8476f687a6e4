/- The contracts of the Go functions against the pure functions, printed by program. Conditions: each says them. -/
import Derived.Test.YthidohmobbomfaaGreatC4
set_option linter.unusedVariables false
set_option linter.unusedSimpArgs false
set_option maxRecDepth 100000
set_option maxHeartbeats 4000000
namespace Go.Gx.Px
open Go.Proofs Go.RowKit
open K9
theorem c_M_removals {w0:World} (a1:Ta) (u1:Value) (g1:RO [] w0 u1 a1) (a2:Tf) (u2:Value) (g2:RO [] w0 u2 a2) (a3:Tg) (u3:Value) (g3:RO [] w0 u3 a3) (rr:(Tj × Bool)) (hF:M.removals a1 a2 a3=some rr) :
 Calls Tryz.prog 46 [u1,u2,u3].toArray w0 fun e w'=>∃v,e=.returned v∧Res2 w0 rr.1 rr.2 v w':=by
 refine Av Tryz.func46 z z ?_
 have hC0:=A3 w0
 unfold M.removals at hF
 refine Ac<|Be (cs:=[u1]) hC0 (ro_cells g1) z z fun b1 w1 hC1 hB1 hN1=>Be (cs:=[u2]) hC1 (ro_cells g2) z z fun b2 w2 hC2 hB2 hN2=>Be (cs:=[u3]) hC2 (ro_cells g3) z z fun b3 w3 hC3 hB3 hN3=>Af z z<|Af z z<|Aa<|A0<|be hF fun r1 hr1 hF=>B9 (fun l w=>∃x1:Bool,x1=r1∧l=[(3,(ptr b1 0)),(4,(ptr b2 0)),(5,(ptr b3 0)),(23,(.bool x1))]∧Below w3.heap.size w3 w∧Ctx [] w0 w [Ah b3 [u3],Ah b2 [u2],Ah b1 [u1]]) ?_ ?_
 ·refine AL<|Al hC3 2 z z Au z z<|Al hC3 1 z z CP z z<|be hr1 fun x2 hr2 hr1=>cb Tryz.call56 z z (c_M_AreMethods a1 u1 (g1.now hC3.keep) a2 u2 (g2.now hC3.keep) x2 hr2) fun w5 hB5=>have hC5:=hC3.grow hB5;Bv z z<|Ae z z<|wk hr1 (fun hr1=>?_) fun hr1=>?_
  ·exact gs z z z z<|gs z z z z<|gs z z z z<|AJ z z z<|Aa<|nS<|⟨true,Ab hr1,z,(Ao hB5).below,hC5⟩
  exact Ai z z<|Al hC5 0 z z Cy z z<|Ai z z<|AH A8 g3 z z<|Ai z z<|Ck z z z<|AK z z z<|Aa<|nS<|⟨(decide (8 < (List.length a3:Int))),Ab hr1,z,(Ao hB5).below,hC5⟩
 rintro _ w4 ⟨x1,rfl,rfl,hB4,hC4⟩
 refine wc hF z (fun hF=>?_) fun hF=>?_
 ·refine Ac<|Af z z<|Af z z<|Aa<|AF<|Ax<|?_
  obtain rfl:=Ab hF
  refine CT z z z ?_
  have hC6:=hC4.triv (BN (false))
  have hC7:=hC6.triv (nil_val (α:=Ta))
  exact ⟨_,z,res2_of hC7⟩
 refine A5<|Am<|Ac<|BP z z<|Af z z<|Aa<|Ac<|Al hC4 0 z z Cy z z<|AH A8 g3 z z<|Ae z z<|be hF fun x3 hr3 hF=>AA Tryz.call86 z z (c_M_smallest_M_removals_c1 (List.length a3:Int) b1 a1 (hC4.boxAt 2 z (repw_slice (g1.now hC4.keep))) b2 a2 (hC4.boxAt 1 z (repw_slice (g2.now hC4.keep))) b3 a3 (hC4.boxAt 0 z (repw_slice (g3.now hC4.keep))) x3 hr3)<|?_
 rintro _ w6 ⟨hB6,v1,v2,F1,F2,rfl,hv2,hv3,hn1,hb1⟩
 obtain ⟨rfl,rfl⟩:=val_bool hv3
 have hC8:=hC4.pushL hB6 (Bs:=[Ad v1 x3.1]) (Fs:=[F1]) ⟨F1,_,z,hv2,z⟩ (by simpa using hn1) (fun b h=>hb1 b (by simpa using h))
 refine Ae z z<|Bk z z z<|Bk z z z<|Af z z<|Af z z<|Aa<|A0<|Ac<|Ae z z<|Bv z z<|Aa<|wc hF z (fun hF=>?_) fun hF=>?_
 ·refine Ac<|Af z z<|Af z z<|Aa<|AF<|Ax<|?_
  obtain rfl:=Ab hF
  refine CT z z z ?_
  have hC9:=hC8.triv (BN (false))
  have hC10:=hC9.triv (nil_val (α:=Ta))
  exact ⟨_,z,res2_of hC10⟩
 refine A5<|Am<|Ac<|Ar (vs:=[]) hC8 AC ty24 z z z z (by simp) z z fun b4 w7 hC11 hB7=>?_
 have hC14:=hC11.rowE (α:=Ta)
 refine Af z z<|Aa<|A0<|Ac<|Al hC14 2 z z Cy z z<|AH A8 g3 z z<|be hF fun _ hx1 hF=>WL_shl (nn_some hx1) z z z<|Ae z z<|Aa<|be hF fun r2 hr4 hF=>wN (fun l w=>∃v4:Value,∃x6:Tj,x6=r2∧l=[(11,v4)]∧Ctx [] w0 w [Ad v4 x6]) ?_ ?_
 ·refine A4<|wT<|Bj (fun k l w=>∃v3:Value,∃x4:Tj,∃x5:Int,l=[(5,(ptr b3 0)),(8,(.func (.func 85) #[] #[(ptr b1 0),(ptr b2 0),(ptr b3 0)])),(9,v1),(11,v3),(37,(I (shl 1 (List.length a3:Int)))),(38,(I x5))]∧Ctx [] w0 w [Ad v3 x4,Ad v1 x3.1,Ah b3 [u3],Ah b2 [u2],Ah b1 [u1]]∧M.removals_l1 a3 x3 a1 a2 k x4 x5=some r2) FUEL ⟨(.slice (some ⟨b4,0,none⟩) 0 0),([]:List Ta),0,z,hC14,hr4⟩<|?_
  clear hr4
  rintro k1 _ w9 ⟨v3,x4,x5,rfl,hC15,hL1⟩
  obtain _|k1:=k1<;>rw [M.removals_l1] at hL1
  ·cases hL1
  refine Ac<|AZ z z z<|Aa<|A0<|wc hL1 z (fun hL1=>?_) fun hL1=>?_
  ·refine A5<|Am<|A0<|A4<|Ac<|Ae z z<|Af z z<|Aa<|Ac<|Ar (vs:=[]) hC15 Ag ty3 z z z z (by simp) z z fun b5 w10 hC16 hB9=>?_
   have hC19:=hC16.rowE (α:=Int)
   refine Af z z<|Aa<|A0<|Ac<|Al hC19 3 z z Cy z z<|AH A8 g3 z z<|Ae z z<|Aa<|be hL1 fun r3 hr5 hL1=>wN (fun l w=>∃v6:Value,∃x9:Ta,x9=r3∧l=[(5,(ptr b3 0)),(8,(.func (.func 85) #[] #[(ptr b1 0),(ptr b2 0),(ptr b3 0)])),(9,v1),(11,v3),(13,v6),(37,(I (shl 1 (List.length a3:Int)))),(38,(I x5))]∧Ctx [] w0 w [Ad v6 x9,Ad v3 x4,Ad v1 x3.1,Ah b3 [u3],Ah b2 [u2],Ah b1 [u1]]) ?_ ?_
   ·refine A4<|wT<|Bj (fun k l w=>∃v5:Value,∃x7:Ta,∃x8:Int,l=[(5,(ptr b3 0)),(8,(.func (.func 85) #[] #[(ptr b1 0),(ptr b2 0),(ptr b3 0)])),(9,v1),(11,v3),(12,(I x5)),(13,v5),(37,(I (shl 1 (List.length a3:Int)))),(38,(I x5)),(43,(I (List.length a3:Int))),(44,(I x8))]∧Ctx [] w0 w [Ad v5 x7,Ad v3 x4,Ad v1 x3.1,Ah b3 [u3],Ah b2 [u2],Ah b1 [u1]]∧M.removals_l2 a3 x5 k x7 x8=some r3) FUEL ⟨(.slice (some ⟨b5,0,none⟩) 0 0),([]:List Int),0,z,hC19,hr5⟩<|?_
    clear hr5
    rintro k2 _ w11 ⟨v5,x7,x8,rfl,hC20,hL2⟩
    obtain _|k2:=k2<;>rw [M.removals_l2] at hL2
    ·cases hL2
    refine Ac<|AZ z z z<|Aa<|A0<|wc hL2 z (fun hL2=>?_) fun hL2=>?_
    ·refine A5<|Am<|A0<|A4<|Ac<|Ae z z<|Af z z<|Aa<|Ac<|Ae z z<|Ae z z<|be hL2 fun _ hx2 hL2=>WL_shr (nn_some hx2) z z z<|Dj z z z<|BD z z z<|Aa<|be hL2 fun r4 hr6 hL2=>wB (fun l w=>∃v7:Value,∃x10:Ta,x10=r4∧l=[(5,(ptr b3 0)),(8,(.func (.func 85) #[] #[(ptr b1 0),(ptr b2 0),(ptr b3 0)])),(9,v1),(11,v3),(12,(I x5)),(13,v7),(37,(I (shl 1 (List.length a3:Int)))),(38,(I x5)),(43,(I (List.length a3:Int))),(44,(I x8))]∧Ctx [] w0 w [Ad v7 x10,Ad v3 x4,Ad v1 x3.1,Ah b3 [u3],Ah b2 [u2],Ah b1 [u1]]) ?_ ?_
     ·refine wc hr6 z (fun hr6=>?_) fun hr6=>?_
      ·refine AL<|Ae z z<|Ae z z<|Ar (vs:=[(I x8)]) hC20 Ag ty3 z z z z (fac z<|fa0) z z fun b6 w13 hC22 hB12=>?_
       have hC27:=hC22.row1i
       refine be hr6 fun x11 hx3 hr6=>AS (α:=Int) hC27 1 z (hC27.ro 0 z) (Ay _ _) Ag ty3 z hx3 z z z fun v8 w14 hC28=>?_
       try dsimp only [List.set] at hC28
       refine Af z z<|Aa<|?_
       have hC35:=hC28.f6.f6.f6.f6.f6.f6.h6
       exact nS<|⟨v8,x11,Ab hr6,z,hC35⟩
      exact A5<|nS<|⟨v5,x7,Ab hr6,z,hC20⟩
     rintro _ w12 ⟨v7,x10,rfl,rfl,hC21⟩
     exact AL<|AW z z z<|Ae z z<|Aa<|nS<|⟨k2,Aw _,v7,x10,w64 (x8+1),z,hC21,hL2⟩
    refine Bi (A2 (A2 (AM ?_)))
    exact nS<|⟨v5,x7,Ab hL2,z,hC20⟩
   rintro _ w15 ⟨v6,x9,rfl,rfl,hC36⟩
   refine be hL1 fun r5 hr7 hL1=>B9 (fun l w=>∃x12:Bool,x12=r5∧l=[(5,(ptr b3 0)),(8,(.func (.func 85) #[] #[(ptr b1 0),(ptr b2 0),(ptr b3 0)])),(9,v1),(11,v3),(13,v6),(37,(I (shl 1 (List.length a3:Int)))),(38,(I x5)),(66,(.bool x12))]∧Below w15.heap.size w15 w∧Ctx [] w0 w [Ad v6 x9,Ad v3 x4,Ad v1 x3.1,Ah b3 [u3],Ah b2 [u2],Ah b1 [u1]]) ?_ ?_
   ·refine AL<|Ae z z<|AH Ag (hC36.ro 0 z) z z<|Ae z z<|AH Ag (hC36.ro 2 z) z z<|BD z z z<|Ae z z<|wk hr7 (fun hr7=>?_) fun hr7=>?_
    ·refine Ai z z<|Ae z z<|Ai z z<|Ae z z<|be hr7 fun x13 hr8 hr7=>Ai z z<|BL (cap:=[(ptr b1 0),(ptr b2 0),(ptr b3 0)]) Db z z z (c_M_removals_c1 x9 v6 ((hC36.ro 0 z).now (Ay _ _)) b1 a1 (hC36.boxAt 5 z (repw_slice (g1.now hC36.keep))) b2 a2 (hC36.boxAt 4 z (repw_slice (g2.now hC36.keep))) b3 a3 (hC36.boxAt 3 z (repw_slice (g3.now hC36.keep))) x13 hr8) fun _ w17 hv4=>?_
     obtain ⟨rfl,hB15⟩:=BM hv4
     have hC38:=hC36.grow hB15
     exact AJ z z z<|Aa<|nS<|⟨x13,Ab hr7,z,(Ao hB15).below,hC38⟩
    exact gs z z z z<|gs z z z z<|gs z z z z<|AK z z z<|Aa<|nS<|⟨false,Ab hr7,z,(Aj _ _),hC36⟩
   rintro _ w16 ⟨x12,rfl,rfl,hB14,hC37⟩
   refine be hL1 fun r6 hr9 hL1=>wB (fun l w=>∃v9:Value,∃x14:Tj,x14=r6∧l=[(5,(ptr b3 0)),(8,(.func (.func 85) #[] #[(ptr b1 0),(ptr b2 0),(ptr b3 0)])),(9,v1),(11,v9),(37,(I (shl 1 (List.length a3:Int)))),(38,(I x5))]∧Ctx [] w0 w [Ad v9 x14,Ad v1 x3.1,Ah b3 [u3],Ah b2 [u2],Ah b1 [u1]]) ?_ ?_
   ·refine wc hr9 z (fun hr9=>?_) fun hr9=>?_
    ·refine AL<|Ae z z<|Ae z z<|be hr9 fun x15 hr10 hr9=>have hC40:=hC37.f1;?_
     obtain ⟨Fs1,hH1,hn2,hF1,hO1,hb2⟩:=hC40.lA
     refine AA Tryz.call87 z z (c_M_addedTuple x4 v3 x9 v6 (hO1 0 _ _ _ z) hH1 hn2 x15 hr10) ?_
     rintro v10 w19 ⟨_,rfl,hq10⟩
     have hC41:=hb2 _ _ hq10
     refine Af z z<|Aa<|?_
     have hC47:=hC41.f5.f5.f5.f5.f4.h5
     exact nS<|⟨v10,x15,Ab hr9,z,hC47⟩
    refine A5 ?_
    have hC53:=hC37.f5.f5.f5.f5.f5.h5
    exact nS<|⟨v3,x4,Ab hr9,z,hC53⟩
   rintro _ w18 ⟨v9,x14,rfl,rfl,hC39⟩
   exact AL<|AW z z z<|Ae z z<|Aa<|nS<|⟨k1,Aw _,v9,x14,w64 (x5+1),z,hC39,hL1⟩
  refine Bi (A2 (A2 (AM ?_)))
  have hC54:=hC15.h1
  exact nS<|⟨v3,x4,Ab hL1,z,hC54⟩
 rintro _ w20 ⟨v4,x6,rfl,rfl,hC55⟩
 refine Ac<|Ae z z<|Af z z<|Af z z<|Aa<|AF<|?_
 obtain rfl:=Ab hF
 refine CT z z z ?_
 have hC56:=hC55.triv (BN (true))
 have hC57:=hC56.f1
 exact ⟨_,z,res2_of hC57⟩
theorem c_M_SmallestRemoval {w0:World} (a1:Ta) (u1:Value) (g1:RO [] w0 u1 a1) (a2:Tf) (u2:Value) (g2:RO [] w0 u2 a2) (a3:Tg) (u3:Value) (g3:RO [] w0 u3 a3) (rr:(Ta × Bool)) (hF:M.SmallestRemoval a1 a2 a3=some rr) :
 Calls Tryz.prog 7 [u1,u2,u3].toArray w0 fun e w'=>∃v,e=.returned v∧Res2 w0 rr.1 rr.2 v w':=by
 refine Av Tryz.func7 z z ?_
 have hC0:=A3 w0
 unfold M.SmallestRemoval at hF
 refine Ac<|Af z z<|Af z z<|Aa<|Ac<|Ae z z<|Ae z z<|Ae z z<|be hF fun x1 hr1 hF=>AA Tryz.call46 z z (c_M_removals a1 u1 (g1.now hC0.keep) a2 u2 (g2.now hC0.keep) a3 u3 (g3.now hC0.keep) x1 hr1)<|?_
 rintro _ w1 ⟨hB1,v1,v2,F1,F2,rfl,hv1,hv2,hn1,hb1⟩
 obtain ⟨rfl,rfl⟩:=val_bool hv2
 have hC1:=hC0.pushL hB1 (Bs:=[Ad v1 x1.1]) (Fs:=[F1]) ⟨F1,_,z,hv1,z⟩ (by simpa using hn1) (fun b h=>hb1 b (by simpa using h))
 refine Ae z z<|Bk z z z<|Bk z z z<|Af z z<|Af z z<|Aa<|A0<|Ac<|Ae z z<|Bv z z<|Aa<|wc hF z (fun hF=>?_) fun hF=>?_
 ·refine Ac<|Af z z<|Af z z<|Aa<|AF<|Ax<|?_
  obtain rfl:=Ab hF
  refine CT z z z ?_
  have hC2:=hC1.triv (BN (false))
  have hC3:=hC2.triv (nil_val (α:=Int))
  exact ⟨_,z,res2_of hC3⟩
 refine A5<|Am<|Ac<|be hF fun x2 hx1 hF=>?_
 obtain ⟨b1,hE1⟩:=hC1.eb hx1
 obtain ⟨cs1,hC4⟩:=hC1.openElem hx1
 obtain ⟨v3,rfl,hC5⟩:=hC4.cellsSlice
 refine Ae z z<|WL_index_hole hC5 1 z AC ty24 hE1 hx1 z z z<|WL_load_hole (fo:=0) hC5 1 z hE1 z z Au z z<|Af z z<|Af z z<|Aa<|AF<|?_
 obtain rfl:=Ab hF
 refine CT z z z ?_
 have hC6:=hC5.triv (BN (true))
 have hC7:=hC6.f1
 exact ⟨_,z,res2_of hC7⟩
theorem c_S_IsTold {w0:World} (a1:Ta) (u1:Value) (g1:RO [] w0 u1 a1) (a2:Tf) (u2:Value) (g2:RO [] w0 u2 a2) (a3:Td) (u3:Value) (g3:RO [] w0 u3 a3.1.2) (u4:Value) (g4:RO [] w0 u4 a3.2) (rr:Bool) (hF:S.IsTold a1 a2 a3=some rr) :
 Calls Tryz.prog 159 [u1,u2,(.agg #[(I a3.1.1),u3,u4])].toArray w0 fun e w'=>∃v,e=.returned v∧Res w0 rr v w':=by
 refine Av Tryz.func159 z z ?_
 have hC0:=A3 w0
 unfold S.IsTold at hF
 refine Ac<|Be (cs:=[(I a3.1.1),u3,u4]) hC0 z z z fun b1 w1 hC1 hB1 hN1=>Af z z<|Aa<|be hF fun r1 hr1 hF=>B9 (fun l w=>∃x1:Bool,x1=r1∧l=[(6,(.bool x1))]∧Below w1.heap.size w1 w∧Ctx [] w0 w []) ?_ ?_
 ·refine AL<|Ae z z<|Ae z z<|fd AR AP z z z z<|Az [(I a3.1.1),u3] hC1 0 z z z Bu AP z z<|be hr1 fun x2 hr2 hr1=>cb Tryz.call201 z z (c_S_IsAccess a1 u1 (g1.now hC1.keep) a2 u2 (g2.now hC1.keep) (a3.1.1,a3.1.2) u3 (g3.now hC1.keep) x2 hr2) fun w3 hB3=>have hC3:=hC1.grow hB3;Ae z z<|wk hr1 (fun hr1=>?_) fun hr1=>?_
  ·refine Ai z z<|Ae z z<|Ai z z<|fd AR Bx z z z z<|Ai z z<|Al hC3 0 z z B8 z z<|be hr1 fun x3 hr3 hr1=>Ai z z<|cb Tryz.call202 z z (c_S_AreFacts a1 u1 (g1.now hC3.keep) a3.2 u4 (g4.now hC3.keep) x3 hr3) fun w4 hB4=>have hC4:=hC3.grow hB4;AJ z z z<|Af z z<|Aa<|?_
   have hC5:=hC4.h0
   exact nS<|⟨x3,Ab hr1,z,((Ao hB3).then hB4).below,hC5⟩
  refine gs z z z z<|gs z z z z<|gs z z z z<|gs z z z z<|AK z z z<|Af z z<|Aa<|?_
  have hC6:=hC3.h0
  exact nS<|⟨false,Ab hr1,z,(Ao hB3).below,hC6⟩
 rintro _ w2 ⟨x1,rfl,rfl,hB2,hC2⟩
 exact AF<|rB hF z z hC2
theorem c_S_FitsSelf {w0:World} (a1:Ta) (u1:Value) (g1:RO [] w0 u1 a1) (a2:Tf) (u2:Value) (g2:RO [] w0 u2 a2) (a3:Td) (u3:Value) (g3:RO [] w0 u3 a3.1.2) (u4:Value) (g4:RO [] w0 u4 a3.2) (rr:Bool) (hF:S.FitsSelf a1 a2 a3=some rr) :
 Calls Tryz.prog 106 [u1,u2,(.agg #[(I a3.1.1),u3,u4])].toArray w0 fun e w'=>∃v,e=.returned v∧Res w0 rr v w':=by
 refine Av Tryz.func106 z z ?_
 have hC0:=A3 w0
 unfold S.FitsSelf at hF
 refine Ac<|Be (cs:=[(I a3.1.1),u3,u4]) hC0 z z z fun b1 w1 hC1 hB1 hN1=>Af z z<|Aa<|A0<|Ac<|Ae z z<|Ae z z<|Az [(I a3.1.1),u3,u4] hC1 0 z z z BG B3 z z<|be hF fun x1 hr1 hF=>cb Tryz.call159 z z (c_S_IsTold a1 u1 (g1.now hC1.keep) a2 u2 (g2.now hC1.keep) ((a3.1.1,a3.1.2),a3.2) u3 (g3.now hC1.keep) u4 (g4.now hC1.keep) x1 hr1) fun w2 hB2=>have hC2:=hC1.grow hB2;Bv z z<|Aa<|wc hF z (fun hF=>?_) fun hF=>?_
 ·exact Ac<|Af z z<|Aa<|AF<|Ax<|rB hF z z hC2
 refine A5<|Am<|Ac<|Ae z z<|fd AR AP z z z z<|fd AO A7 z z z z<|Al hC2 0 z z AU z z<|be hF fun x2 hx1 hF=>A9 Bh ty110 g2 hx1 z z z fun b2 o1 h1=>AD ty110 h1 hC2.keep z z fun v1 h2=>?_
 obtain ⟨v2,rfl,h3⟩:=CW h2
 refine Bq hC2 zero110 z z fun b3 w3 hC3 hB3 hN2=>AE (cs':=[(I x2.1),v2,(I x2.2.2.1),(I x2.2.2.2.1),(I x2.2.2.2.2)]) (new:=[(I x2.1),v2,(I x2.2.2.1),(I x2.2.2.2.1),(I x2.2.2.2.2)]) hC3 0 z z (fac z<|fac (Br h3)<|fac z<|fac z<|fac z<|fa0) z B6 z z fun w4 hC4 hKp1=>?_
 try dsimp only [List.set] at hC4
 have hk1:=AV (((Ao hB1).then hB2).then hB3) (Bl ((Ao hB1).then hB2).size hN2) hKp1
 have hk2:=AV ((Ao hB2).then hB3) (Bl (Ao hB2).size hN2) hKp1
 have hk3:=AV (Ao hB3) hN2 hKp1
 refine Aa<|A0<|Ac<|Af z z<|Aa<|be hF fun r1 hr2 hF=>wN (fun l w=>.inl ()=r1∧l=[(5,(ptr b1 0)),(7,(ptr b3 0))]∧Below w4.heap.size w4 w∧Ctx [] w0 w [Ah b3 [(I x2.1),v2,(I x2.2.2.1),(I x2.2.2.2.1),(I x2.2.2.2.2)],Ah b1 [(I a3.1.1),u3,u4]]) ?_ ?_
 ·refine A4<|wT<|Bj (fun k l w=>∃x3:Int,l=[(5,(ptr b1 0)),(7,(ptr b3 0)),(8,(I x3))]∧Below w4.heap.size w4 w∧Ctx [] w0 w [Ah b3 [(I x2.1),v2,(I x2.2.2.1),(I x2.2.2.2.1),(I x2.2.2.2.2)],Ah b1 [(I a3.1.1),u3,u4]]∧S.FitsSelf_l1 a3 x2 k x3=some r1) FUEL ⟨0,z,(Aj _ _),hC4,hr2⟩<|?_
  clear hr2
  rintro k1 _ w5 ⟨x3,rfl,hB4,hC5,hL1⟩
  obtain _|k1:=k1<;>rw [S.FitsSelf_l1] at hL1
  ·cases hL1
  refine A0<|Ac<|Ae z z<|fd AR Bx z z z z<|Al hC5 1 z z B8 z z<|AH Ak g4 z z<|AZ z z z<|Aa<|wc hL1 z (fun hL1=>?_) fun hL1=>?_
  ·refine A5<|Am<|A0<|A4<|A0<|W_drawn 11 z hmix fun w6 hB5=>have hC6:=hC5.grow hB5;tf 1 AR AP z z z z z<|tf 2 AO Aq z z z z z<|tf 4 AR Bx z z z z z<|tm 6 z z z<|be hL1 fun x4 hx2 hL1=>wAS (l':=[(5,(ptr b1 0)),(7,(ptr b3 0)),(8,(I x3)),(20,(I x3)),(21,(ptr b1 2)),(22,u4),(23,(I (List.length a3.2:Int))),(24,(.bool (decide (x3 < (List.length a3.2:Int))))),(28,(ptr b1 0)),(29,(ptr b1 1)),(31,(ptr b1 2)),(33,(I x3))]) ⟨z,z,z,z,z,z,z,z,z,z,z,z,A6⟩<|Bg [⟨0,[],fun vs=>AQ (.agg #[(I x2.1),v2,(I x2.2.2.1),(I x2.2.2.2.1),(I x2.2.2.2.2)]),[]⟩,⟨3,[],fun vs=>AQ u3,[]⟩,⟨5,[],fun vs=>AQ u4,[]⟩,⟨7,[],fun vs=>Cd [] w0 x4,[]⟩,⟨8,[],fun vs=>Cj [] w0 x4,[]⟩] [[],[],[],[5],[7]] 2 z (by kernel_rfl) (by kernel_rfl) z ?_ ?_
   ·refine An z ?_ ?_
    ·intro w7 hB6
     refine At<|⟨_,z,?_⟩
     exact Az [(I x2.1),v2,(I x2.2.2.1),(I x2.2.2.2.1),(I x2.2.2.2.2)] (hC6.grow hB6) 0 z z z BU B6 z z<|Aa<|A1 (Aj _ _) z z ⟨z,z⟩
    refine An z ?_ ?_
    ·intro w7 hB6
     refine At<|⟨_,z,?_⟩
     exact Al (hC6.grow hB6) 1 z z Au z z<|Aa<|A1 (Aj _ _) z z ⟨z,z⟩
    refine An z ?_ ?_
    ·intro w7 hB6
     refine At<|⟨_,z,?_⟩
     exact Al (hC6.grow hB6) 1 z z B8 z z<|Aa<|A1 (Aj _ _) z z ⟨z,z⟩
    refine An z ?_ ?_
    ·intro w7 hB6
     refine AG z z z ?_
     rintro _ _ ⟨rfl,rfl⟩ _
     refine At<|⟨_,z,?_⟩
     exact A9 Ak ty77 g4 hx2 z z z fun b4 o2 h4=>Aa<|A1 (Aj _ _) z z ⟨z,_,_,z,h4⟩
    refine An z ?_ ?_
    ·intro w7 hB6
     refine AG z z z ?_
     rintro _ _ ⟨rfl,b4,o2,rfl,h4⟩ _
     refine At<|⟨_,z,?_⟩
     exact AD ty77 h4 (hC6.keep.then hB6) z z fun v5 h7=>Aa<|A1 (Aj _ _) z z ⟨z,h7⟩
    exact AX
   intro w9 hB7
   refine Ap z z z ?_
   rintro _ _ ⟨rfl,rfl⟩
   refine Ap z z z ?_
   rintro _ _ ⟨rfl,rfl⟩
   refine Ap z z z ?_
   rintro _ _ ⟨rfl,rfl⟩
   refine Ap z z z ?_
   rintro _ _ ⟨rfl,b4,o2,rfl,h4⟩
   refine Ap z z z ?_
   rintro v5 _ ⟨rfl,h7⟩
   obtain ⟨v4,rfl,h6⟩:=BE h7
   refine Bm fun hn1 hb1=>have hC7:=hC6.grow hB7;be hL1 fun x5 hr3 hL1=>oe 9 z<|cb Tryz.call160 z z (c_S_l5Fits (x2.1,x2.2.1,x2.2.2.1,x2.2.2.2.1,x2.2.2.2.2) v2 (h3.now hC7.keep) a3.1.2 u3 (g3.now hC7.keep) x4 v4 (h6.now hC7.keep) x5 hr3) fun w10 hB8=>have hC8:=hC7.grow hB8;Aa<|tk 10 z z (Cw z)<|Bv z z<|Aa<|dn<|Am<|wc hL1 z (fun hL1=>?_) fun hL1=>?_
   ·refine Ac<|Af z z<|Aa<|AF<|AT<|Ax<|Ax<|AT<|Ax<|Ax<|?_
    obtain rfl:=Ab hL1
    dsimp only at hF
    exact rB hF z z hC8
   exact A5<|AN<|Am<|AL<|Ae z z<|AW z z z<|Af z z<|Aa<|nS<|⟨k1,Aw _,w64 (x3+1),z,((((Ao hB4).then hB5).then hB7).then hB8).below,hC8,hL1⟩
  refine Bi (A2 (A2 (AM ?_)))
  exact nS<|⟨Ab hL1,z,(Ao hB4).below,hC5⟩
 rintro _ w11 ⟨rfl,rfl,hB9,hC9⟩
 try dsimp only at hF
 refine be hF fun r2 hr4 hF=>B9 (fun l w=>∃x6:Bool,x6=r2∧l=[(6,(.bool x6))]∧Below w11.heap.size w11 w∧Ctx [] w0 w []) ?_ ?_
 ·refine AL<|fd AI A7 z z z z<|Al hC9 0 z z AU z z<|BD z z z<|Ae z z<|wk hr4 (fun hr4=>?_) fun hr4=>?_
  ·refine gs z z z z<|gs z z z z<|gs z z z z<|gs z z z z<|gs z z z z<|gs z z z z<|AJ z z z<|Af z z<|Aa<|?_
   have hC11:=hC9.h0
   exact nS<|⟨true,Ab hr4,z,(Aj _ _),hC11⟩
  refine Ai z z<|fd AR Bx z z z z<|Ai z z<|Al hC9 1 z z B8 z z<|Ai z z<|AH Ak g4 z z<|Ai z z<|fd AI A7 z z z z<|Ai z z<|Al hC9 0 z z AU z z<|Ai z z<|Cv z z z<|AK z z z<|Af z z<|Aa<|?_
  have hC12:=hC9.h0
  exact nS<|⟨(decide ((List.length a3.2:Int) ≤ x2.2.2.1)),Ab hr4,z,(Aj _ _),hC12⟩
 rintro _ w12 ⟨x6,rfl,rfl,hB10,hC10⟩
 exact AF<|rB hF z z hC10
theorem c_S_l28Lacks {w0:World} (a1:Tf) (u1:Value) (g1:RO [] w0 u1 a1) (a2:Td) (u2:Value) (g2:RO [] w0 u2 a2.1.2) (u3:Value) (g3:RO [] w0 u3 a2.2) (a3:Td) (u4:Value) (g4:RO [] w0 u4 a3.1.2) (u5:Value) (g5:RO [] w0 u5 a3.2) (rr:Bool) (hF:S.l28Lacks a1 a2 a3=some rr) :
 Calls Tryz.prog 161 [u1,(.agg #[(I a2.1.1),u2,u3]),(.agg #[(I a3.1.1),u4,u5])].toArray w0 fun e w'=>∃v,e=.returned v∧Res w0 rr v w':=by
 refine Av Tryz.func161 z z ?_
 have hC0:=A3 w0
 unfold S.l28Lacks at hF
 refine Ac<|Be (cs:=[(I a2.1.1),u2,u3]) hC0 z z z fun b1 w1 hC1 hB1 hN1=>Be (cs:=[(I a3.1.1),u4,u5]) hC1 z z z fun b2 w2 hC2 hB2 hN2=>Af z z<|Aa<|Ac<|Ae z z<|fd AR AP z z z z<|fd AO A7 z z z z<|Al hC2 0 z z AU z z<|be hF fun x1 hx1 hF=>A9 Bh ty110 g1 hx1 z z z fun b3 o1 h1=>AD ty110 h1 hC2.keep z z fun v1 h2=>?_
 obtain ⟨v2,rfl,h3⟩:=CW h2
 refine Bq hC2 zero110 z z fun b4 w3 hC3 hB3 hN3=>AE (cs':=[(I x1.1),v2,(I x1.2.2.1),(I x1.2.2.2.1),(I x1.2.2.2.2)]) (new:=[(I x1.1),v2,(I x1.2.2.1),(I x1.2.2.2.1),(I x1.2.2.2.2)]) hC3 0 z z (fac z<|fac (Br h3)<|fac z<|fac z<|fac z<|fa0) z B6 z z fun w4 hC4 hKp1=>?_
 try dsimp only [List.set] at hC4
 have hk1:=AV (((Ao hB1).then hB2).then hB3) (Bl ((Ao hB1).then hB2).size hN3) hKp1
 have hk2:=AV ((Ao hB2).then hB3) (Bl (Ao hB2).size hN3) hKp1
 have hk3:=AV (Ao hB3) hN3 hKp1
 refine Aa<|A0<|Ac<|Af z z<|Aa<|be hF fun r1 hr1 hF=>wN (fun l w=>.inl ()=r1∧l=[]∧Below w4.heap.size w4 w∧Ctx [] w0 w []) ?_ ?_
 ·refine A4<|wT<|Bj (fun k l w=>∃x2:Int,l=[(4,(ptr b1 0)),(5,(ptr b2 0)),(7,(ptr b4 0)),(8,(I x2))]∧Below w4.heap.size w4 w∧Ctx [] w0 w [Ah b4 [(I x1.1),v2,(I x1.2.2.1),(I x1.2.2.2.1),(I x1.2.2.2.2)],Ah b2 [(I a3.1.1),u4,u5],Ah b1 [(I a2.1.1),u2,u3]]∧S.l28Lacks_l1 a2 x1 a3 k x2=some r1) FUEL ⟨0,z,(Aj _ _),hC4,hr1⟩<|?_
  clear hr1
  rintro k1 _ w5 ⟨x2,rfl,hB4,hC5,hL1⟩
  obtain _|k1:=k1<;>rw [S.l28Lacks_l1] at hL1
  ·cases hL1
  refine A0<|Ac<|Ae z z<|fd AR Bx z z z z<|Al hC5 2 z z B8 z z<|AH Ak g3 z z<|AZ z z z<|Aa<|wc hL1 z (fun hL1=>?_) fun hL1=>?_
  ·refine A5<|Am<|A0<|A4<|be hL1 fun r2 hr2 hL1=>B9 (fun l w=>∃x3:Bool,x3=r2∧l=[(4,(ptr b1 0)),(5,(ptr b2 0)),(7,(ptr b4 0)),(8,(I x2)),(55,(.bool x3))]∧Below w5.heap.size w5 w∧Ctx [] w0 w [Ah b4 [(I x1.1),v2,(I x1.2.2.1),(I x1.2.2.2.1),(I x1.2.2.2.2)],Ah b2 [(I a3.1.1),u4,u5],Ah b1 [(I a2.1.1),u2,u3]]) ?_ ?_
   ·refine W_drawn 34 z hmix fun w7 hB6=>have hC7:=hC5.grow hB6;tf 1 AR AP z z z z z<|tf 2 AO Aq z z z z z<|tf 4 AR Bx z z z z z<|tm 6 z z z<|be hr2 fun x4 hx2 hr2=>wAS (l':=[(4,(ptr b1 0)),(5,(ptr b2 0)),(7,(ptr b4 0)),(8,(I x2)),(15,(I x2)),(16,(ptr b1 2)),(17,u3),(18,(I (List.length a2.2:Int))),(19,(.bool (decide (x2 < (List.length a2.2:Int))))),(23,(ptr b2 0)),(24,(ptr b2 1)),(26,(ptr b1 2)),(28,(I x2))]) ⟨z,z,z,z,z,z,z,z,z,z,z,z,z,A6⟩<|Bg [⟨0,[],fun vs=>AQ (.agg #[(I x1.1),v2,(I x1.2.2.1),(I x1.2.2.2.1),(I x1.2.2.2.2)]),[]⟩,⟨3,[],fun vs=>AQ u4,[]⟩,⟨5,[],fun vs=>AQ u3,[]⟩,⟨7,[],fun vs=>Cd [] w0 x4,[]⟩,⟨8,[],fun vs=>Cj [] w0 x4,[]⟩] [[],[],[],[5],[7]] 25 z (by kernel_rfl) (by kernel_rfl) z ?_ ?_
    ·refine An z ?_ ?_
     ·intro w9 hB7
      refine At<|⟨_,z,?_⟩
      exact Az [(I x1.1),v2,(I x1.2.2.1),(I x1.2.2.2.1),(I x1.2.2.2.2)] (hC7.grow hB7) 0 z z z BU B6 z z<|Aa<|A1 (Aj _ _) z z ⟨z,z⟩
     refine An z ?_ ?_
     ·intro w9 hB7
      refine At<|⟨_,z,?_⟩
      exact Al (hC7.grow hB7) 1 z z Au z z<|Aa<|A1 (Aj _ _) z z ⟨z,z⟩
     refine An z ?_ ?_
     ·intro w9 hB7
      refine At<|⟨_,z,?_⟩
      exact Al (hC7.grow hB7) 2 z z B8 z z<|Aa<|A1 (Aj _ _) z z ⟨z,z⟩
     refine An z ?_ ?_
     ·intro w9 hB7
      refine AG z z z ?_
      rintro _ _ ⟨rfl,rfl⟩ _
      refine At<|⟨_,z,?_⟩
      exact A9 Ak ty77 g3 hx2 z z z fun b5 o2 h4=>Aa<|A1 (Aj _ _) z z ⟨z,_,_,z,h4⟩
     refine An z ?_ ?_
     ·intro w9 hB7
      refine AG z z z ?_
      rintro _ _ ⟨rfl,b5,o2,rfl,h4⟩ _
      refine At<|⟨_,z,?_⟩
      exact AD ty77 h4 (hC7.keep.then hB7) z z fun v5 h7=>Aa<|A1 (Aj _ _) z z ⟨z,h7⟩
     exact AX
    intro w10 hB8
    refine Ap z z z ?_
    rintro _ _ ⟨rfl,rfl⟩
    refine Ap z z z ?_
    rintro _ _ ⟨rfl,rfl⟩
    refine Ap z z z ?_
    rintro _ _ ⟨rfl,rfl⟩
    refine Ap z z z ?_
    rintro _ _ ⟨rfl,b5,o2,rfl,h4⟩
    refine Ap z z z ?_
    rintro v5 _ ⟨rfl,h7⟩
    obtain ⟨v4,rfl,h6⟩:=BE h7
    refine Bm fun hn1 hb1=>have hC8:=hC7.grow hB8;be hr2 fun x5 hr3 hr2=>oe 9 z<|cb Tryz.call160 z z (c_S_l5Fits (x1.1,x1.2.1,x1.2.2.1,x1.2.2.2.1,x1.2.2.2.2) v2 (h3.now hC8.keep) a3.1.2 u4 (g4.now hC8.keep) x4 v4 (h6.now hC8.keep) x5 hr3) fun w11 hB9=>have hC9:=hC8.grow hB9;Aa<|tm 10 z z z<|BJ (fun hc2=>?_) (fun hc2=>?_)
    ·replace hr2:=Cm hr2 hc2
     refine tg 11 z z z z (BC AR z z (fun w=>⟨_,Bx w⟩) z)<|Ai z z<|fd AR Bx z z z z<|Aa<|tg 13 z z z z (BC AR z z (fun w=>⟨_,Bx w⟩) z)<|Ai z z<|fd AR Bx z z z z<|Aa<|tn 15 z z z z z<|be hr2 fun x6 hx3 hr2=>wAS (l':=[(4,(ptr b1 0)),(5,(ptr b2 0)),(7,(ptr b4 0)),(8,(I x2)),(15,(I x2)),(16,(ptr b1 2)),(17,u3),(18,(I (List.length a2.2:Int))),(19,(.bool (decide (x2 < (List.length a2.2:Int))))),(22,(.agg #[(I x1.1),v2,(I x1.2.2.1),(I x1.2.2.2.1),(I x1.2.2.2.2)])),(23,(ptr b2 0)),(24,(ptr b2 1)),(25,u4),(26,(ptr b1 2)),(27,u3),(28,(I x2)),(29,(ptr b5 o2)),(30,(.agg #[(I x4.1),v4])),(31,(.bool x5)),(32,(.bool true)),(33,(ptr b2 2)),(35,(ptr b1 2)),(37,(I x2))]) ⟨z,z,z,z,z,z,z,z,z,z,z,z,z,z,z,z,z,z,z,z,z,z,z,A6⟩<|Bg [⟨12,[],fun vs=>AQ u5,[]⟩,⟨14,[],fun vs=>AQ u3,[]⟩,⟨16,[],fun vs=>Cd [] w0 x6,[]⟩,⟨17,[],fun vs=>Cj [] w0 x6,[]⟩] [[],[],[14],[16]] 16 z (by kernel_rfl) (by kernel_rfl) z ?_ ?_
     ·refine An z ?_ ?_
      ·intro w12 hB10
       refine At<|⟨_,z,?_⟩
       exact Ai z z<|Al (hC9.grow hB10) 1 z z B8 z z<|Aa<|A1 (Aj _ _) z z ⟨z,z⟩
      refine An z ?_ ?_
      ·intro w12 hB10
       refine At<|⟨_,z,?_⟩
       exact Ai z z<|Al (hC9.grow hB10) 2 z z B8 z z<|Aa<|A1 (Aj _ _) z z ⟨z,z⟩
      refine An z ?_ ?_
      ·intro w12 hB10
       refine AG z z z ?_
       rintro _ _ ⟨rfl,rfl⟩ _
       refine At<|⟨_,z,?_⟩
       exact Ai z z<|A9 Ak ty77 g3 hx3 z z z fun b6 o3 h8=>Aa<|A1 (Aj _ _) z z ⟨z,_,_,z,h8⟩
      refine An z ?_ ?_
      ·intro w12 hB10
       refine AG z z z ?_
       rintro _ _ ⟨rfl,b6,o3,rfl,h8⟩ _
       refine At<|⟨_,z,?_⟩
       exact Ai z z<|AD ty77 h8 (hC9.keep.then hB10) z z fun v8 h11=>Aa<|A1 (Aj _ _) z z ⟨z,h11⟩
      exact AX
     intro w13 hB11
     refine Ap z z z ?_
     rintro _ _ ⟨rfl,rfl⟩
     refine Ap z z z ?_
     rintro _ _ ⟨rfl,rfl⟩
     refine Ap z z z ?_
     rintro _ _ ⟨rfl,b6,o3,rfl,h8⟩
     refine Ap z z z ?_
     rintro v8 _ ⟨rfl,h11⟩
     obtain ⟨v7,rfl,h10⟩:=BE h11
     refine Bm fun hn2 hb2=>have hC10:=hC9.grow hB11;be hr2 fun x7 hr4 hr2=>oe 18 z<|Ai z z<|cb CK z z (c_S_HasFact a3.2 u5 (g5.now hC10.keep) x6 v7 (h10.now hC10.keep) x7 hr4) fun w14 hB12=>have hC11:=hC10.grow hB12;Aa<|tg 19 z z z z (Cw z)<|Ai z z<|Bv z z<|Aa<|tp 20 z z z z<|tm 21 z z z<|BJ (fun hc3=>?_) (fun hc3=>?_)
     ·replace hr2:=Cm hr2 hc3
      refine tg 22 z z z z (BC AI z z (fun w=>⟨_,A7 w⟩) z)<|Ai z z<|fd AI A7 z z z z<|Aa<|oe 23 z<|Ai z z<|Al hC11 0 z z AU z z<|Aa<|tg 24 z z z z (Dl z z)<|Ai z z<|BD z z z<|Aa<|tn 25 z z z z z<|BJ (fun hc4=>?_) (fun hc4=>?_)
      ·replace hr2:=Cm hr2 hc4
       exact sk 26 z z z z z<|sk 27 z z z z z<|sk 28 z z z z z<|sk 29 z z z z z<|sk 30 z z z z z<|sk 31 z z z z z<|tg 32 z z z z (Df z z)<|Ai z z<|AJ z z z<|Aa<|tp 33 z z z z<|dn<|nS<|⟨true,Ab hr2,z,(((((Ao hB6).then hB8).then hB9).then hB11).then hB12).below,hC11⟩
      replace hr2:=Cn hr2 hc4
      refine tg 26 z z z z (BC AR z z (fun w=>⟨_,Bx w⟩) z)<|Ai z z<|fd AR Bx z z z z<|Aa<|tg 29 z z z z (BC AI z z (fun w=>⟨_,A7 w⟩) z)<|Ai z z<|fd AI A7 z z z z<|Aa<|wAS (l':=[(4,(ptr b1 0)),(5,(ptr b2 0)),(7,(ptr b4 0)),(8,(I x2)),(15,(I x2)),(16,(ptr b1 2)),(17,u3),(18,(I (List.length a2.2:Int))),(19,(.bool (decide (x2 < (List.length a2.2:Int))))),(22,(.agg #[(I x1.1),v2,(I x1.2.2.1),(I x1.2.2.2.1),(I x1.2.2.2.2)])),(23,(ptr b2 0)),(24,(ptr b2 1)),(25,u4),(26,(ptr b1 2)),(27,u3),(28,(I x2)),(29,(ptr b5 o2)),(30,(.agg #[(I x4.1),v4])),(31,(.bool x5)),(32,(.bool true)),(33,(ptr b2 2)),(34,u5),(35,(ptr b1 2)),(36,u3),(37,(I x2)),(38,(ptr b6 o3)),(39,(.agg #[(I x6.1),v7])),(40,(.bool x7)),(41,(.bool (!x7))),(42,(.bool (!x7))),(43,(.bool true)),(44,(ptr b4 2)),(45,(I x1.2.2.1)),(46,(.bool (decide (x1.2.2.1=0)))),(47,(.bool false)),(48,(ptr b2 2)),(51,(ptr b4 2))]) ⟨z,z,z,z,z,z,z,z,z,z,z,z,z,z,z,z,z,z,z,z,z,z,z,z,z,z,z,z,z,z,z,z,z,z,z,z,z,A6⟩<|Bg [⟨27,[],fun vs=>AQ u5,[]⟩,⟨28,[],fun vs=>AQ (I (List.length a3.2:Int)),[]⟩,⟨30,[],fun vs=>AQ (I x1.2.2.1),[]⟩] [[],[27],[]] 3 z (by kernel_rfl) (by kernel_rfl) z ?_ ?_
      ·refine An z ?_ ?_
       ·intro w15 hB13
        refine At<|⟨_,z,?_⟩
        exact Ai z z<|Al (hC11.grow hB13) 1 z z B8 z z<|Aa<|A1 (Aj _ _) z z ⟨z,z⟩
       refine An z ?_ ?_
       ·intro w15 hB13
        refine AG z z z ?_
        rintro _ _ ⟨rfl,rfl⟩ _
        refine At<|⟨_,z,?_⟩
        exact Ai z z<|AH Ak g5 z z<|Aa<|A1 (Aj _ _) z z ⟨z,z⟩
       refine An z ?_ ?_
       ·intro w15 hB13
        refine At<|⟨_,z,?_⟩
        exact Ai z z<|Al (hC11.grow hB13) 0 z z AU z z<|Aa<|A1 (Aj _ _) z z ⟨z,z⟩
       exact AX
      intro w16 hB14
      refine Ap z z z ?_
      rintro _ _ ⟨rfl,rfl⟩
      refine Ap z z z ?_
      rintro _ _ ⟨rfl,rfl⟩
      refine Ap z z z ?_
      rintro _ _ ⟨rfl,rfl⟩
      exact Bm fun hn3 hb3=>have hC12:=hC11.grow hB14;tg 31 z z z z (fl_lss z z)<|Ai z z<|AZ z z z<|Aa<|tg 32 z z z z (Dg z z)<|Ai z z<|AK z z z<|Aa<|tp 33 z z z z<|dn<|nS<|⟨(decide ((List.length a3.2:Int) < x1.2.2.1)),Ab hr2,z,((((((Ao hB6).then hB8).then hB9).then hB11).then hB12).then hB14).below,hC12⟩
     replace hr2:=Cn hr2 hc3
     exact sk 22 z z z z z<|sk 23 z z z z z<|sk 24 z z z z z<|sk 25 z z z z z<|sk 26 z z z z z<|sk 27 z z z z z<|sk 28 z z z z z<|sk 29 z z z z z<|sk 30 z z z z z<|sk 31 z z z z z<|sk 32 z z z z z<|tq 33 z z z z<|dn<|nS<|⟨false,Ab hr2,z,(((((Ao hB6).then hB8).then hB9).then hB11).then hB12).below,hC11⟩
    replace hr2:=Cn hr2 hc2
    exact sk 11 z z z z z<|sk 12 z z z z z<|sk 13 z z z z z<|sk 14 z z z z z<|sk 15 z z z z z<|sk 16 z z z z z<|sk 17 z z z z z<|sk 18 z z z z z<|sk 19 z z z z z<|tq 20 z z z z<|tm 21 z z z<|sk 22 z z z z z<|sk 23 z z z z z<|sk 24 z z z z z<|sk 25 z z z z z<|sk 26 z z z z z<|sk 27 z z z z z<|sk 28 z z z z z<|sk 29 z z z z z<|sk 30 z z z z z<|sk 31 z z z z z<|sk 32 z z z z z<|tq 33 z z z z<|dn<|nS<|⟨false,Ab hr2,z,(((Ao hB6).then hB8).then hB9).below,hC9⟩
   rintro _ w6 ⟨x3,rfl,rfl,hB5,hC6⟩
   refine wc hL1 z (fun hL1=>?_) fun hL1=>?_
   ·refine Ac<|Af z z<|Aa<|AF<|AT<|Ax<|Ax<|AT<|Ax<|Ax<|?_
    obtain rfl:=Ab hL1
    dsimp only at hF
    exact rB hF z z hC6
   exact A5<|AN<|Am<|AL<|Ae z z<|AW z z z<|Af z z<|Aa<|nS<|⟨k1,Aw _,w64 (x2+1),z,((Ao hB4).then hB5).below,hC6,hL1⟩
  refine Bi (A2 (A2 (AM ?_)))
  have hC13:=hC5.h0
  exact nS<|⟨Ab hL1,z,(Ao hB4).below,hC13⟩
 rintro _ w17 ⟨rfl,rfl,hB15,hC14⟩
 try dsimp only at hF
 exact Ac<|Af z z<|Aa<|AF<|rB hF z z hC14
theorem c_S_Disagree {w0:World} (a1:Ta) (u1:Value) (g1:RO [] w0 u1 a1) (a2:Tf) (u2:Value) (g2:RO [] w0 u2 a2) (a3:Td) (u3:Value) (g3:RO [] w0 u3 a3.1.2) (u4:Value) (g4:RO [] w0 u4 a3.2) (a4:Td) (u5:Value) (g5:RO [] w0 u5 a4.1.2) (u6:Value) (g6:RO [] w0 u6 a4.2) (rr:Bool) (hF:S.Disagree a1 a2 a3 a4=some rr) :
 Calls Tryz.prog 107 [u1,u2,(.agg #[(I a3.1.1),u3,u4]),(.agg #[(I a4.1.1),u5,u6])].toArray w0 fun e w'=>∃v,e=.returned v∧Res w0 rr v w':=by
 refine Av Tryz.func107 z z ?_
 have hC0:=A3 w0
 unfold S.Disagree at hF
 refine Ac<|Be (cs:=[(I a3.1.1),u3,u4]) hC0 z z z fun b1 w1 hC1 hB1 hN1=>Be (cs:=[(I a4.1.1),u5,u6]) hC1 z z z fun b2 w2 hC2 hB2 hN2=>Af z z<|Aa<|be hF fun r1 hr1 hF=>B9 (fun l w=>∃x1:Bool,x1=r1∧l=[(8,(.bool x1))]∧Below w2.heap.size w2 w∧Ctx [] w0 w []) ?_ ?_
 ·refine AL<|Ae z z<|Ae z z<|Az [(I a3.1.1),u3,u4] hC2 1 z z z BG B3 z z<|be hr1 fun x2 hr2 hr1=>cb Tryz.call106 z z (c_S_FitsSelf a1 u1 (g1.now hC2.keep) a2 u2 (g2.now hC2.keep) ((a3.1.1,a3.1.2),a3.2) u3 (g3.now hC2.keep) u4 (g4.now hC2.keep) x2 hr2) fun w4 hB4=>have hC4:=hC2.grow hB4;Ae z z<|wk hr1 (fun hr1=>?_) fun hr1=>?_
  ·refine Ai z z<|Ae z z<|Ai z z<|Ae z z<|Ai z z<|Az [(I a4.1.1),u5,u6] hC4 0 z z z BG B3 z z<|be hr1 fun x3 hr3 hr1=>Ai z z<|cb Tryz.call106 z z (c_S_FitsSelf a1 u1 (g1.now hC4.keep) a2 u2 (g2.now hC4.keep) ((a4.1.1,a4.1.2),a4.2) u5 (g5.now hC4.keep) u6 (g6.now hC4.keep) x3 hr3) fun w5 hB5=>have hC5:=hC4.grow hB5;AJ z z z<|Ae z z<|wk hr1 (fun hr1=>?_) fun hr1=>?_
   ·refine Ai z z<|Ae z z<|Ai z z<|Az [(I a3.1.1),u3,u4] hC5 1 z z z BG B3 z z<|Ai z z<|Az [(I a4.1.1),u5,u6] hC5 0 z z z BG B3 z z<|be hr1 fun x4 hr4 hr1=>Ai z z<|cb Tryz.call161 z z (c_S_l28Lacks a2 u2 (g2.now hC5.keep) ((a3.1.1,a3.1.2),a3.2) u3 (g3.now hC5.keep) u4 (g4.now hC5.keep) ((a4.1.1,a4.1.2),a4.2) u5 (g5.now hC5.keep) u6 (g6.now hC5.keep) x4 hr4) fun w6 hB6=>have hC6:=hC5.grow hB6;Ai z z<|Ae z z<|wk hr1 (fun hr1=>?_) fun hr1=>?_
    ·refine gs z z z z<|gs z z z z<|gs z z z z<|gs z z z z<|Ai z z<|AJ z z z<|AJ z z z<|Af z z<|Aa<|?_
     have hC7:=hC6.h0
     exact nS<|⟨true,Ab hr1,z,(((Ao hB4).then hB5).then hB6).below,hC7⟩
    refine Ai z z<|Ae z z<|Ai z z<|Az [(I a4.1.1),u5,u6] hC6 0 z z z BG B3 z z<|Ai z z<|Az [(I a3.1.1),u3,u4] hC6 1 z z z BG B3 z z<|be hr1 fun x5 hr5 hr1=>Ai z z<|cb Tryz.call161 z z (c_S_l28Lacks a2 u2 (g2.now hC6.keep) ((a4.1.1,a4.1.2),a4.2) u5 (g5.now hC6.keep) u6 (g6.now hC6.keep) ((a3.1.1,a3.1.2),a3.2) u3 (g3.now hC6.keep) u4 (g4.now hC6.keep) x5 hr5) fun w7 hB7=>have hC8:=hC6.grow hB7;Ai z z<|AK z z z<|AJ z z z<|Af z z<|Aa<|?_
    have hC9:=hC8.h0
    exact nS<|⟨x5,Ab hr1,z,((((Ao hB4).then hB5).then hB6).then hB7).below,hC9⟩
   refine gs z z z z<|gs z z z z<|gs z z z z<|gs z z z z<|gs z z z z<|gs z z z z<|gs z z z z<|gs z z z z<|gs z z z z<|gs z z z z<|AK z z z<|Af z z<|Aa<|?_
   have hC10:=hC5.h0
   exact nS<|⟨false,Ab hr1,z,((Ao hB4).then hB5).below,hC10⟩
  refine gs z z z z<|gs z z z z<|gs z z z z<|gs z z z z<|AK z z z<|Ae z z<|gs z z z z<|gs z z z z<|gs z z z z<|gs z z z z<|gs z z z z<|gs z z z z<|gs z z z z<|gs z z z z<|gs z z z z<|gs z z z z<|AK z z z<|Af z z<|Aa<|?_
  have hC11:=hC4.h0
  exact nS<|⟨false,Ab hr1,z,(Ao hB4).below,hC11⟩
 rintro _ w3 ⟨x1,rfl,rfl,hB3,hC3⟩
 exact AF<|rB hF z z hC3
theorem c_S_FirstConflict {w0:World} (a1:Ta) (u1:Value) (g1:RO [] w0 u1 a1) (a2:Tf) (u2:Value) (g2:RO [] w0 u2 a2) (a3:Tg) (u3:Value) (g3:RO [] w0 u3 a3) (rr:(Int × Int × Bool)) (hF:S.FirstConflict a1 a2 a3=some rr) :
 Calls Tryz.prog 60 [u1,u2,u3].toArray w0 fun e w'=>∃v,e=.returned v∧Res3 w0 rr.1 rr.2.1 rr.2.2 v w':=by
 refine Av Tryz.func60 z z ?_
 have hC0:=A3 w0
 unfold S.FirstConflict at hF
 refine Ac<|Af z z<|Af z z<|Af z z<|Aa<|A0<|Ac<|Af z z<|Aa<|be hF fun r1 hr1 hF=>wN (fun l w=>.inl ()=r1∧l=[]∧Below w0.heap.size w0 w∧Ctx [] w0 w []) ?_ ?_
 ·refine A4<|wT<|Bj (fun k l w=>∃x1:Int,l=[(0,u1),(1,u2),(2,u3),(9,(I x1))]∧Below w0.heap.size w0 w∧Ctx [] w0 w []∧S.FirstConflict_l1 a3 a1 a2 k x1=some r1) FUEL ⟨0,z,(Aj _ _),hC0,hr1⟩<|?_
  clear hr1
  rintro k1 _ w1 ⟨x1,rfl,hB1,hC1,hL1⟩
  obtain _|k1:=k1<;>rw [S.FirstConflict_l1] at hL1
  ·cases hL1
  refine A0<|Ac<|Ae z z<|Ae z z<|AH A8 g3 z z<|AZ z z z<|Aa<|wc hL1 z (fun hL1=>?_) fun hL1=>?_
  ·refine A5<|Am<|A0<|A4<|A0<|Ac<|Ae z z<|Ae z z<|Ae z z<|Ae z z<|be hL1 fun x2 hx1 hL1=>A9 A8 ty84 g3 hx1 z z z fun b1 o1 h1=>AD ty84 h1 hC1.keep z z fun v1 h2=>?_
   obtain ⟨v2,v3,rfl,h3,h4⟩:=C2 h2
   refine be hL1 fun x3 hr2 hL1=>cb Tryz.call106 z z (c_S_FitsSelf a1 u1 (g1.now hC1.keep) a2 u2 (g2.now hC1.keep) x2 v2 (h3.now hC1.keep) v3 (h4.now hC1.keep) x3 hr2) fun w2 hB2=>have hC2:=hC1.grow hB2;Bv z z<|Aa<|wc hL1 z (fun hL1=>?_) fun hL1=>?_
   ·refine Ac<|Ae z z<|Ae z z<|Af z z<|Af z z<|Af z z<|Aa<|AF<|Ax<|AT<|Ax<|Ax<|AT<|Ax<|Ax<|?_
    obtain rfl:=Ab hL1
    dsimp only at hF
    obtain rfl:=Ab hF
    refine C1 z z z z ?_
    have hC3:=hC2.triv (BN (true))
    have hC4:=hC3.triv (Bt (x1))
    have hC5:=hC4.triv (Bt (x1))
    exact ⟨_,z,res3_of hC5⟩
   refine A5<|Am<|Ac<|Af z z<|Aa<|be hL1 fun r2 hr3 hL1=>wB (fun l w=>.inl ()=r2∧l=[(0,u1),(1,u2),(2,u3),(9,(I x1))]∧Below w2.heap.size w2 w∧Ctx [] w0 w []) ?_ ?_
   ·refine A4<|wT<|Bj (fun k l w=>∃x4:Int,l=[(0,u1),(1,u2),(2,u3),(9,(I x1)),(10,(I x4))]∧Below w2.heap.size w2 w∧Ctx [] w0 w []∧S.FirstConflict_l2 x1 a3 a1 a2 k x4=some r2) FUEL ⟨0,z,(Aj _ _),hC2,hr3⟩<|?_
    clear hr3
    rintro k2 _ w3 ⟨x4,rfl,hB3,hC6,hL2⟩
    obtain _|k2:=k2<;>rw [S.FirstConflict_l2] at hL2
    ·cases hL2
    refine A0<|Ac<|Ae z z<|Ae z z<|AZ z z z<|Aa<|wc hL2 z (fun hL2=>?_) fun hL2=>?_
    ·refine A5<|Am<|A0<|A4<|A0<|W_drawn 11 z hmix fun w4 hB4=>have hC7:=hC6.grow hB4;tm 0 z z z<|tm 1 z z z<|tm 2 z z z<|tm 3 z z z<|be hL2 fun x5 hx2 hL2=>tk 4 z z (B5 A8 ty84 g3 hx2 z z)<|A9 A8 ty84 g3 hx2 z z z fun b2 o2 h5=>Aa<|tm 6 z z z<|tm 7 z z z<|be hL2 fun x6 hx3 hL2=>tk 8 z z (B5 A8 ty84 g3 hx3 z z)<|A9 A8 ty84 g3 hx3 z z z fun b3 o3 h6=>Aa<|wAS (l':=[(0,u1),(1,u2),(2,u3),(9,(I x1)),(10,(I x4)),(27,(I x4)),(28,(I x1)),(29,(.bool (decide (x4 < x1)))),(32,u1),(33,u2),(34,u3),(35,(I x4)),(36,(ptr b2 o2)),(38,u3),(39,(I x1)),(40,(ptr b3 o3))]) ⟨z,z,z,z,z,z,z,z,z,z,z,z,z,z,z,z,A6⟩<|Bg [⟨5,[],fun vs=>Cj [] w0 x5,[]⟩,⟨9,[],fun vs=>Cj [] w0 x6,[]⟩] [[],[]] 1 z (by kernel_rfl) (by kernel_rfl) z ?_ ?_
     ·refine An z ?_ ?_
      ·intro w5 hB5
       refine At<|⟨_,z,?_⟩
       exact AD ty84 h5 (hC7.keep.then hB5) z z fun v7 h10=>Aa<|A1 (Aj _ _) z z ⟨z,h10⟩
      refine An z ?_ ?_
      ·intro w5 hB5
       refine At<|⟨_,z,?_⟩
       exact AD ty84 h6 (hC7.keep.then hB5) z z fun v11 h14=>Aa<|A1 (Aj _ _) z z ⟨z,h14⟩
      exact AX
     intro w6 hB6
     refine Ap z z z ?_
     rintro v7 _ ⟨rfl,h10⟩
     obtain ⟨v5,v6,rfl,h8,h9⟩:=C2 h10
     refine Ap z z z ?_
     rintro v11 _ ⟨rfl,h14⟩
     obtain ⟨v9,v10,rfl,h12,h13⟩:=C2 h14
     refine Bm fun hn1 hb1=>have hC8:=hC7.grow hB6;be hL2 fun x7 hr4 hL2=>oe 10 z<|cb Tryz.call107 z z (c_S_Disagree a1 u1 (g1.now hC8.keep) a2 u2 (g2.now hC8.keep) x5 v5 (h8.now hC8.keep) v6 (h9.now hC8.keep) x6 v9 (h12.now hC8.keep) v10 (h13.now hC8.keep) x7 hr4) fun w7 hB7=>have hC9:=hC8.grow hB7;Aa<|dn<|Am<|wc hL2 z (fun hL2=>?_) fun hL2=>?_
     ·refine Ac<|Ae z z<|Ae z z<|Af z z<|Af z z<|Af z z<|Aa<|AF<|AT<|Ax<|Ax<|AT<|Ax<|AT<|Ax<|Ax<|AT<|Ax<|Ax<|?_
      obtain rfl:=Ab hL2
      dsimp only at hL1
      obtain rfl:=Ab hL1
      dsimp only at hF
      obtain rfl:=Ab hF
      refine C1 z z z z ?_
      have hC10:=hC9.triv (BN (true))
      have hC11:=hC10.triv (Bt (x1))
      have hC12:=hC11.triv (Bt (x4))
      exact ⟨_,z,res3_of hC12⟩
     exact A5<|AN<|Am<|AL<|Ae z z<|AW z z z<|Af z z<|Aa<|nS<|⟨k2,Aw _,w64 (x4+1),z,((((Ao hB3).then hB4).then hB6).then hB7).below,hC9,hL2⟩
    refine Bi (A2 (A2 (AM ?_)))
    exact nS<|⟨Ab hL2,z,(Ao hB3).below,hC6⟩
   rintro _ w9 ⟨rfl,rfl,hB8,hC13⟩
   try dsimp only at hL1
   exact AL<|Ae z z<|AW z z z<|Af z z<|Aa<|nS<|⟨k1,Aw _,w64 (x1+1),z,(((Ao hB1).then hB2).then hB8).below,hC13,hL1⟩
  refine Bi (A2 (A2 (AM ?_)))
  exact nS<|⟨Ab hL1,z,(Ao hB1).below,hC1⟩
 rintro _ w10 ⟨rfl,rfl,hB9,hC14⟩
 try dsimp only at hF
 refine Ac<|Af z z<|Af z z<|Af z z<|Aa<|AF<|?_
 obtain rfl:=Ab hF
 refine C1 z z z z ?_
 have hC15:=hC14.triv (BN (false))
 have hC16:=hC15.triv (Bt ((-1)))
 have hC17:=hC16.triv (Bt ((-1)))
 exact ⟨_,z,res3_of hC17⟩
theorem c_S_IsConsistent {w0:World} (a1:Ta) (u1:Value) (g1:RO [] w0 u1 a1) (a2:Tf) (u2:Value) (g2:RO [] w0 u2 a2) (a3:Tg) (u3:Value) (g3:RO [] w0 u3 a3) (rr:Bool) (hF:S.IsConsistent a1 a2 a3=some rr) :
 Calls Tryz.prog 21 [u1,u2,u3].toArray w0 fun e w'=>∃v,e=.returned v∧Res w0 rr v w':=by
 refine Av Tryz.func21 z z ?_
 have hC0:=A3 w0
 unfold S.IsConsistent at hF
 refine Ac<|Af z z<|Aa<|Ac<|Ae z z<|Ae z z<|Ae z z<|be hF fun x1 hr1 hF=>AA Tryz.call60 z z (c_S_FirstConflict a1 u1 (g1.now hC0.keep) a2 u2 (g2.now hC0.keep) a3 u3 (g3.now hC0.keep) x1 hr1)<|?_
 rintro _ w1 ⟨hB1,v1,v2,v3,F1,F2,F3,rfl,hv1,hv2,hv3,hn1,hb1⟩
 obtain ⟨rfl,rfl⟩:=val_int hv1
 obtain ⟨rfl,rfl⟩:=val_int hv2
 obtain ⟨rfl,rfl⟩:=val_bool hv3
 have hC1:=hC0.grow hB1
 refine Ae z z<|Bk z z z<|Bk z z z<|Bk z z z<|Af z z<|Af z z<|Af z z<|Aa<|be hF fun r1 hr2 hF=>B9 (fun l w=>∃x2:Bool,x2=r1∧l=[(6,(.bool x2))]∧Below w1.heap.size w1 w∧Ctx [] w0 w []) ?_ ?_
 ·refine AL<|Ae z z<|Ae z z<|be hr2 fun x3 hr3 hr2=>cb CL z z (c_S_AreMethods a1 u1 (g1.now hC1.keep) a2 u2 (g2.now hC1.keep) x3 hr3) fun w3 hB3=>have hC3:=hC1.grow hB3;Ae z z<|wk hr2 (fun hr2=>?_) fun hr2=>?_
  ·exact Ai z z<|Ae z z<|Ai z z<|Bv z z<|AJ z z z<|Af z z<|Aa<|nS<|⟨(!x1.2.2),Ab hr2,z,(Ao hB3).below,hC3⟩
  exact gs z z z z<|gs z z z z<|AK z z z<|Af z z<|Aa<|nS<|⟨false,Ab hr2,z,(Ao hB3).below,hC3⟩
 rintro _ w2 ⟨x2,rfl,rfl,hB2,hC2⟩
 exact AF<|rB hF z z hC2
theorem c_S_l2Has {w0:World} (a1:Ta) (u1:Value) (g1:RO [] w0 u1 a1) (a2:Int) (rr:Bool) (hF:S.l2Has a1 a2=some rr) :
 Calls Tryz.prog 61 [u1,(I a2)].toArray w0 fun e w'=>∃v,e=.returned v∧Res w0 rr v w':=by
 refine Av Tryz.func61 z z ?_
 have hC0:=A3 w0
 unfold S.l2Has at hF
 refine Ac<|Af z z<|Aa<|A0<|Ac<|Af z z<|Aa<|be hF fun r1 hr1 hF=>wN (fun l w=>.inl ()=r1∧l=[]∧Below w0.heap.size w0 w∧Ctx [] w0 w []) ?_ ?_
 ·refine A4<|wT<|Bj (fun k l w=>∃x1:Int,l=[(0,u1),(1,(I a2)),(5,(I x1))]∧Below w0.heap.size w0 w∧Ctx [] w0 w []∧S.l2Has_l1 a1 a2 k x1=some r1) FUEL ⟨0,z,(Aj _ _),hC0,hr1⟩<|?_
  clear hr1
  rintro k1 _ w1 ⟨x1,rfl,hB1,hC1,hL1⟩
  obtain _|k1:=k1<;>rw [S.l2Has_l1] at hL1
  ·cases hL1
  refine A0<|Ac<|Ae z z<|Ae z z<|AH Ag g1 z z<|AZ z z z<|Aa<|wc hL1 z (fun hL1=>?_) fun hL1=>?_
  ·refine A5<|Am<|A0<|A4<|Ac<|Ae z z<|Ae z z<|be hL1 fun x2 hx1 hL1=>A9 Ag ty3 g1 hx1 z z z fun b1 o1 h1=>AD ty3 h1 hC1.keep z z fun v1 h2=>?_
   obtain rfl:=Bo h2
   refine Ae z z<|BD z z z<|Aa<|wc hL1 z (fun hL1=>?_) fun hL1=>?_
   ·refine Ac<|Af z z<|Aa<|AF<|AT<|Ax<|Ax<|AT<|Ax<|Ax<|?_
    obtain rfl:=Ab hL1
    dsimp only at hF
    exact rB hF z z hC1
   exact A5<|AN<|Am<|AL<|Ae z z<|AW z z z<|Af z z<|Aa<|nS<|⟨k1,Aw _,w64 (x1+1),z,(Ao hB1).below,hC1,hL1⟩
  refine Bi (A2 (A2 (AM ?_)))
  exact nS<|⟨Ab hL1,z,(Ao hB1).below,hC1⟩
 rintro _ w2 ⟨rfl,rfl,hB2,hC2⟩
 try dsimp only at hF
 exact Ac<|Af z z<|Aa<|AF<|rB hF z z hC2
theorem c_S_l8Access {w0:World} (a1:Int) (a2:Ta) (u1:Value) (g1:RO [] w0 u1 a2) (rr:Tb) (hF:S.l8Access a1 a2=some rr) :
 Calls Tryz.prog 108 [(I a1),u1].toArray w0 fun e w'=>∃v,e=.returned v∧Res w0 rr v w':=by
 refine Av Tryz.func108 z z ?_
 have hC0:=A3 w0
 unfold S.l8Access at hF
 refine Ac<|Bq hC0 zero82 z z fun b1 w1 hC1 hB1 hN1=>Aa<|Ac<|Ae z z<|Ar (vs:=[]) hC1 Ag ty3 z z z z (by simp) z z fun b2 w2 hC2 hB2=>?_
 have hC5:=hC2.rowE (α:=Int)
 refine Ae z z<|be hF fun x1 hx1 hF=>AS (α:=Int) hC5 0 z g1 hC5.keep Ag ty3 z hx1 z z z fun v1 w3 hC6=>?_
 try dsimp only [List.set] at hC6
 refine B4 (vs:=[(0,(I a1)),(1,v1)]) z z z (built82_0_1 z (ro_cells (hC6.ro 0 z)))<|AE (cs':=[(I a1),v1]) (new:=[(I a1),v1]) hC6 1 z z (fac z<|fac (Br (hC6.ro 0 z))<|fa0) z AP z z fun w4 hC7 hKp1=>?_
 try dsimp only [List.set] at hC7
 refine Aa (AF ?_)
 obtain rfl:=Ab hF
 refine BY z (rv_cell_agg (cs':=[(I a1),v1]) hC7 (i:=1) z z z Bu AP z) ?_
 have hC8:=Dk a1 v1 x1 hC7
 exact ⟨_,z,CJ hC8 0 z⟩
theorem c_S_l2Copy {w0:World} (a1:Tc) (u1:Value) (g1:RO [] w0 u1 a1) (rr:Tc) (hF:S.l2Copy a1=some rr) :
 Calls Tryz.prog 109 [u1].toArray w0 fun e w'=>∃v,e=.returned v∧Res w0 rr v w':=by
 refine Av Tryz.func109 z z ?_
 have hC0:=A3 w0
 unfold S.l2Copy at hF
 refine Ac<|Af z z<|Aa<|Ac<|Ar (vs:=[]) hC0 Ak ty77 z z z z (by simp) z z fun b1 w1 hC1 hB1=>?_
 have hC4:=hC1.rowE (α:=Tb)
 refine Af z z<|Aa<|A0<|Ac<|Af z z<|Aa<|be hF fun r1 hr1 hF=>wN (fun l w=>∃v2:Value,∃x3:Tc,x3=r1∧l=[(3,v2)]∧Ctx [] w0 w [Ad v2 x3]) ?_ ?_
 ·refine A4<|wT<|Bj (fun k l w=>∃v1:Value,∃x1:Tc,∃x2:Int,l=[(0,u1),(3,v1),(4,(I x2))]∧Ctx [] w0 w [Ad v1 x1]∧S.l2Copy_l1 a1 k x1 x2=some r1) FUEL ⟨(.slice (some ⟨b1,0,none⟩) 0 0),([]:List Tb),0,z,hC4,hr1⟩<|?_
  clear hr1
  rintro k1 _ w2 ⟨v1,x1,x2,rfl,hC5,hL1⟩
  obtain _|k1:=k1<;>rw [S.l2Copy_l1] at hL1
  ·cases hL1
  refine A0<|Ac<|Ae z z<|Ae z z<|AH Ak g1 z z<|AZ z z z<|Aa<|wc hL1 z (fun hL1=>?_) fun hL1=>?_
  ·refine A5<|Am<|A0<|A4<|W_drawn 15 z hmix fun w3 hB3=>have hC6:=hC5.grow hB3;tm 0 z z z<|tm 1 z z z<|tm 2 z z z<|be hL1 fun x4 hx1 hL1=>tk 3 z z (B5 Ak ty77 g1 hx1 z z)<|A9 Ak ty77 g1 hx1 z z z fun b2 o1 h1=>Aa<|tf 4 AB A7 z z z z z<|tm 6 z z z<|tm 7 z z z<|be hL1 fun x5 hx2 hL1=>tk 8 z z (B5 Ak ty77 g1 hx2 z z)<|A9 Ak ty77 g1 hx2 z z z fun b3 o2 h2=>Aa<|tf 9 AB Aq z z z z z<|wAS (l':=[(0,u1),(3,v1),(4,(I x2)),(6,(I x2)),(7,u1),(8,(I (List.length a1:Int))),(9,(.bool (decide (x2 < (List.length a1:Int))))),(12,v1),(13,u1),(14,(I x2)),(15,(ptr b2 o1)),(16,(ptr b2 (o1+0))),(18,u1),(19,(I x2)),(20,(ptr b3 o2)),(21,(ptr b3 (o2+1)))]) ⟨z,z,z,z,z,z,z,z,z,z,z,z,z,z,z,z,A6⟩<|Bg [⟨5,[],fun vs=>AQ (I x4.1),[]⟩,⟨10,[],fun vs=>Cj [] w0 x5.2,[]⟩] [[],[]] 4 z (by kernel_rfl) (by kernel_rfl) z ?_ ?_
   ·refine An z ?_ ?_
    ·intro w4 hB4
     refine At<|⟨_,z,?_⟩
     refine AD ty3 h1.fst (hC6.keep.then hB4) z z (fun v3 h3=>?_)
     obtain rfl:=Bo h3
     exact Aa<|A1 (Aj _ _) z z ⟨z,z⟩
    refine An z ?_ ?_
    ·intro w4 hB4
     refine At<|⟨_,z,?_⟩
     exact AD ty24 h2.snd (hC6.keep.then hB4) z z fun v4 h4=>Aa<|A1 (Aj _ _) z z ⟨z,h4⟩
    exact AX
   intro w5 hB5
   refine Ap z z z ?_
   rintro _ _ ⟨rfl,rfl⟩
   refine Ap z z z ?_
   rintro v4 _ ⟨rfl,h4⟩
   refine Bm fun hn1 hb1=>have hC7:=hC6.grow hB5;be hL1 fun x6 hr2 hL1=>oe 11 z<|AA C9 z z (c_S_l2One x4.1 x5.2 v4 (h4.now hC7.keep) x6 hr2)<|?_
   rintro v5 w6 ⟨hB6,F1,hv1,hn2,hb2⟩
   have hC8:=hC7.push hB6 (A:=Ad v5 x6) hv1 hn2 hb2
   obtain ⟨v6,rfl,hC9⟩:=st77_own hC8
   refine Aa<|oe 12 z<|Ar (vs:=[(.agg #[(I x6.1),v6])]) hC9 Ak ty77 z z z z (fac z<|fa0) z z fun b4 w7 hC10 hB7=>?_
   have hC11:=hC10.row0 (α:=Tb)
   have hC13:=hC11.f2
   have hC12:=Cc x6.1 v6 x6.2 hC13
   have hC14:=hC12.row1
   have hC15:=hC14.front 1 z
   dsimp only [List.eraseIdx,List.cons_append,List.nil_append,List.append_nil] at hC15
   have hC16:Ctx [] w0 w7 (Ad (.slice (some ⟨b4,0,none⟩) 1 1) ([(x6.1,x6.2)]:List Tb)::[Ad v1 x1]):=hC15.rowOwn (by simp [maxLen])
   refine Aa<|be hL1 fun x7 hx3 hL1=>oe 13 z<|Bf hC16 0 z Ak ty77 z hx3 z z z fun v7 w9 hC17=>?_
   try dsimp only [List.set] at hC17
   exact Aa<|ta 14 z z z<|dn<|AN<|Am<|AL<|Ae z z<|AW z z z<|Af z z<|Aa<|nS<|⟨k1,Aw _,v7,x7,w64 (x2+1),z,hC17,hL1⟩
  refine Bi (A2 (A2 (AM ?_)))
  exact nS<|⟨v1,x1,Ab hL1,z,hC5⟩
 rintro _ w10 ⟨v2,x3,rfl,rfl,hC19⟩
 exact Ac<|Ae z z<|Af z z<|Aa<|AF<|rO hF z z hC19 0 z
theorem c_S_l29Told {w0:World} (a1:Td) (u1:Value) (g1:RO [] w0 u1 a1.1.2) (u2:Value) (g2:RO [] w0 u2 a1.2) (rr:Td) (hF:S.l29Told a1=some rr) :
 Calls Tryz.prog 62 [(.agg #[(I a1.1.1),u1,u2])].toArray w0 fun e w'=>∃v,e=.returned v∧Res w0 rr v w':=by
 refine Av Tryz.func62 z z ?_
 have hC0:=A3 w0
 unfold S.l29Told at hF
 refine Ac<|Be (cs:=[(I a1.1.1),u1,u2]) hC0 z z z fun b1 w1 hC1 hB1 hN1=>Bq hC1 zero84 z z fun b2 w2 hC2 hB2 hN2=>Aa<|A0<|W_drawn 12 z hmix fun w3 hB3=>have hC3:=hC2.grow hB3;tf 0 AR AP z z z z z<|tf 1 AO A7 z z z z z<|tf 3 AR AP z z z z z<|tf 4 AO Aq z z z z z<|tf 7 AR Bx z z z z z<|be hF fun x1 hr1 hF=>wAS (l':=[(0,(.agg #[(I a1.1.1),u1,u2])),(1,(ptr b1 0)),(2,(ptr b2 0)),(3,(ptr b1 0)),(4,(ptr b1 0)),(6,(ptr b1 0)),(7,(ptr b1 1)),(10,(ptr b1 2))]) ⟨z,z,z,z,z,z,z,z,A6⟩<|Bg [⟨2,[],fun vs=>AQ (I a1.1.1),[]⟩,⟨5,[],fun vs=>AQ u1,[]⟩,⟨6,[],fun vs=>BS x1,[]⟩,⟨8,[],fun vs=>AQ u2,[]⟩] [[],[],[2,5],[]] 3 z (by kernel_rfl) (by kernel_rfl) z ?_ ?_
 ·refine An z ?_ ?_
  ·intro w5 hB5
   refine At<|⟨_,z,?_⟩
   exact Al (hC3.grow hB5) 1 z z AU z z<|Aa<|A1 (Aj _ _) z z ⟨z,z⟩
  refine An z ?_ ?_
  ·intro w5 hB5
   refine At<|⟨_,z,?_⟩
   exact Al (hC3.grow hB5) 1 z z Au z z<|Aa<|A1 (Aj _ _) z z ⟨z,z⟩
  refine An z ?_ ?_
  ·intro w5 hB5
   refine AG z z z ?_
   rintro _ _ ⟨rfl,rfl⟩ _
   refine AG z z z ?_
   rintro _ _ ⟨rfl,rfl⟩ _
   refine At<|⟨_,z,?_⟩
   refine AA Tryz.call108 z z (c_S_l8Access a1.1.1 a1.1.2 u1 (g1.now (hC3.keep.then hB5)) x1 hr1) ?_
   rintro v1 w4 ⟨hB4,F1,hv1,hn1,hb1⟩
   exact Aa<|BZ hB4 z z hv1 hn1 hb1 (Val.inh hv1)
  refine An z ?_ ?_
  ·intro w5 hB5
   refine At<|⟨_,z,?_⟩
   exact Al (hC3.grow hB5) 1 z z B8 z z<|Aa<|A1 (Aj _ _) z z ⟨z,z⟩
  exact AX
 intro w6 hB6
 refine Ap z z z ?_
 rintro _ _ ⟨rfl,rfl⟩
 refine Ap z z z ?_
 rintro _ _ ⟨rfl,rfl⟩
 refine Ap z z z fun v1 F1 hv1=>Ap z z z<|?_
 rintro _ _ ⟨rfl,rfl⟩
 refine Bm ?_
 intro hn2 hb2
 have hC4:=hC3.pushL hB6 (Bs:=[Ad v1 x1]) (Fs:=[F1]) ⟨F1,_,z,hv1,z⟩ (by simpa using hn2) (fun b h=>(hb2 b (by simpa using h)).1)
 obtain ⟨v3,rfl,hC5⟩:=st82_own hC4
 refine be hF fun x2 hr2 hF=>oe 9 z<|AA Tryz.call109 z z (c_S_l2Copy a1.2 u2 (g2.now hC5.keep) x2 hr2)<|?_
 rintro v4 w7 ⟨hB7,F2,hv2,hn3,hb3⟩
 have hC6:=hC5.push hB7 (A:=Ad v4 x2) hv2 hn3 hb3
 refine Aa<|tk 10 z z (BR (vs:=[(0,(.agg #[(I x1.1),v3])),(1,v4)]) z z (built84_0_1 z (ro_cells (hC6.ro 0 z))))<|B4 (vs:=[(0,(.agg #[(I x1.1),v3])),(1,v4)]) z z z (built84_0_1 z (ro_cells (hC6.ro 0 z)))<|Aa<|oe 11 z<|AE (cs':=[(I x1.1),v3,v4]) (new:=[(I x1.1),v3,v4]) hC6 2 z z (fac z<|fac (Br (hC6.ro 1 z))<|fac (Br (hC6.ro 0 z))<|fa0) z B3 z z fun w9 hC7 hKp1=>?_
 try dsimp only [List.set] at hC7
 have hk1:=AV (((((Ao hB1).then hB2).then hB3).then hB6).then hB7) (Bl (Ao hB1).size hN2) hKp1
 have hk2:=AV ((((Ao hB2).then hB3).then hB6).then hB7) hN2 hKp1
 refine Aa<|dn<|Am<|AF<|?_
 obtain rfl:=Ab hF
 refine BY z (rv_cell_agg (cs':=[(I x1.1),v3,v4]) hC7 (i:=2) z z z BG B3 z)<|have hC10:=hC7.f1;?_
 have hC8:=BW x1.1 v3 x1.2 v4 x2 hC10
 exact ⟨_,z,CJ hC8 0 z⟩
theorem c_S_Without {w0:World} (a1:Tg) (u1:Value) (g1:RO [] w0 u1 a1) (a2:Ta) (u2:Value) (g2:RO [] w0 u2 a2) (rr:Tg) (hF:S.Without a1 a2=some rr) :
 Calls Tryz.prog 23 [u1,u2].toArray w0 fun e w'=>∃v,e=.returned v∧Res w0 rr v w':=by
 refine Av Tryz.func23 z z ?_
 have hC0:=A3 w0
 unfold S.Without at hF
 refine Ac<|Af z z<|Aa<|Ac<|Ar (vs:=[]) hC0 A8 ty84 z z z z (by simp) z z fun b1 w1 hC1 hB1=>?_
 have hC4:=hC1.rowE (α:=Td)
 refine Af z z<|Aa<|A0<|Ac<|Af z z<|Aa<|be hF fun r1 hr1 hF=>wN (fun l w=>∃v2:Value,∃x3:Tg,x3=r1∧l=[(5,v2)]∧Ctx [] w0 w [Ad v2 x3]) ?_ ?_
 ·refine A4<|wT<|Bj (fun k l w=>∃v1:Value,∃x1:Tg,∃x2:Int,l=[(0,u1),(1,u2),(5,v1),(6,(I x2))]∧Ctx [] w0 w [Ad v1 x1]∧S.Without_l1 a1 a2 k x1 x2=some r1) FUEL ⟨(.slice (some ⟨b1,0,none⟩) 0 0),([]:List Td),0,z,hC4,hr1⟩<|?_
  clear hr1
  rintro k1 _ w2 ⟨v1,x1,x2,rfl,hC5,hL1⟩
  obtain _|k1:=k1<;>rw [S.Without_l1] at hL1
  ·cases hL1
  refine A0<|Ac<|Ae z z<|Ae z z<|AH A8 g1 z z<|AZ z z z<|Aa<|wc hL1 z (fun hL1=>?_) fun hL1=>?_
  ·refine A5<|Am<|A0<|A4<|Ac<|Ae z z<|Ae z z<|be hL1 fun x4 hr2 hL1=>cb Tryz.call61 z z (c_S_l2Has a2 u2 (g2.now hC5.keep) x2 x4 hr2) fun w3 hB3=>have hC6:=hC5.grow hB3;Bv z z<|Aa<|be hL1 fun r2 hr3 hL1=>wB (fun l w=>∃v3:Value,∃x5:Tg,x5=r2∧l=[(0,u1),(1,u2),(5,v3),(6,(I x2))]∧Ctx [] w0 w [Ad v3 x5]) ?_ ?_
   ·refine wc hr3 z (fun hr3=>?_) fun hr3=>?_
    ·refine Ac<|Ae z z<|Ae z z<|be hr3 fun x6 hx1 hr3=>A9 A8 ty84 g1 hx1 z z z fun b2 o1 h1=>AD ty84 h1 hC6.keep z z fun v4 h2=>?_
     obtain ⟨v5,v6,rfl,h3,h4⟩:=C2 h2
     refine be hr3 fun x7 hr4 hr3=>AA Tryz.call62 z z (c_S_l29Told x6 v5 (h3.now hC6.keep) v6 (h4.now hC6.keep) x7 hr4)<|?_
     rintro v7 w5 ⟨hB5,F1,hv2,hn1,hb1⟩
     have hC8:=hC6.push hB5 (A:=Ad v7 x7) hv2 hn1 hb1
     obtain ⟨v8,v9,rfl,hC9⟩:=st84_own hC8
     refine Bq hC9 zero84 z z fun b3 w6 hC10 hB6 hN1=>AE (cs':=[(I x7.1.1),v8,v9]) (new:=[(I x7.1.1),v8,v9]) hC10 0 z z (fac z<|fac (Br (hC10.ro 1 z))<|fac (Br (hC10.ro 2 z))<|fa0) z B3 z z fun w7 hC11 hKp1=>?_
     try dsimp only [List.set] at hC11
     have hk1:=AV (((Ao hB3).then hB5).then hB6) (Bl ((Ao hB3).then hB5).size hN1) hKp1
     have hk2:=AV ((Ao hB5).then hB6) (Bl (Ao hB5).size hN1) hKp1
     have hk3:=AV (Ao hB6) hN1 hKp1
     refine Aa<|AL<|Ae z z<|Az [(I x7.1.1),v8,v9] hC11 0 z z z BG B3 z z<|Ar (vs:=[(.agg #[(I x7.1.1),v8,v9])]) hC11 A8 ty84 z z z z (fac z<|fa0) z z fun b4 w9 hC12 hB7=>?_
     have hC13:=hC12.row0 (α:=Td)
     have hC16:=hC13.f4.f4
     have hC14:=BW x7.1.1 v8 x7.1.2 v9 x7.2 hC16
     have hC17:=hC14.row1
     have hC18:=hC17.front 1 z
     dsimp only [List.eraseIdx,List.cons_append,List.nil_append,List.append_nil] at hC18
     have hC19:Ctx [] w0 w9 (Ad (.slice (some ⟨b4,0,none⟩) 1 1) ([((x7.1.1,x7.1.2),x7.2)]:List Td)::[Ah b3 [(I x7.1.1),v8,v9],Ad v1 x1]):=hC18.rowOwn (by simp [maxLen])
     refine be hr3 fun x8 hx2 hr3=>Bf hC19 1 z A8 ty84 z hx2 z z z fun v10 w10 hC20=>?_
     try dsimp only [List.set] at hC20
     refine Af z z<|Aa<|?_
     have hC23:=hC20.f1.h1
     exact nS<|⟨v10,x8,Ab hr3,z,hC23⟩
    exact A5<|nS<|⟨v1,x1,Ab hr3,z,hC6⟩
   rintro _ w4 ⟨v3,x5,rfl,rfl,hC7⟩
   exact AL<|Ae z z<|AW z z z<|Af z z<|Aa<|nS<|⟨k1,Aw _,v3,x5,w64 (x2+1),z,hC7,hL1⟩
  refine Bi (A2 (A2 (AM ?_)))
  exact nS<|⟨v1,x1,Ab hL1,z,hC5⟩
 rintro _ w11 ⟨v2,x3,rfl,rfl,hC24⟩
 exact Ac<|Ae z z<|Af z z<|Aa<|AF<|rO hF z z hC24 0 z
theorem c_S_l15Set {w0:World} (a1:Int) (a2:Int) (rr:Ta) (hF:S.l15Set a1 a2=some rr) :
 Calls Tryz.prog 48 [(I a1),(I a2)].toArray w0 fun e w'=>∃v,e=.returned v∧Res w0 rr v w':=by
 refine Av Tryz.func48 z z ?_
 have hC0:=A3 w0
 unfold S.l15Set at hF
 refine Ac<|Af z z<|Aa<|Ac<|Ar (vs:=[]) hC0 Ag ty3 z z z z (by simp) z z fun b1 w1 hC1 hB1=>?_
 have hC4:=hC1.rowE (α:=Int)
 refine Af z z<|Aa<|A0<|Ac<|Af z z<|Aa<|be hF fun r1 hr1 hF=>wN (fun l w=>∃v2:Value,∃x3:Ta,x3=r1∧l=[(5,v2)]∧Ctx [] w0 w [Ad v2 x3]) ?_ ?_
 ·refine A4<|wT<|Bj (fun k l w=>∃v1:Value,∃x1:Ta,∃x2:Int,l=[(0,(I a1)),(1,(I a2)),(5,v1),(6,(I x2))]∧Ctx [] w0 w [Ad v1 x1]∧S.l15Set_l1 a2 a1 k x1 x2=some r1) FUEL ⟨(.slice (some ⟨b1,0,none⟩) 0 0),([]:List Int),0,z,hC4,hr1⟩<|?_
  clear hr1
  rintro k1 _ w2 ⟨v1,x1,x2,rfl,hC5,hL1⟩
  obtain _|k1:=k1<;>rw [S.l15Set_l1] at hL1
  ·cases hL1
  refine A0<|Ac<|Ae z z<|Ae z z<|AZ z z z<|Aa<|wc hL1 z (fun hL1=>?_) fun hL1=>?_
  ·refine A5<|Am<|A0<|A4<|Ac<|Ae z z<|Ae z z<|be hL1 fun _ hx1 hL1=>WL_shr (nn_some hx1) z z z<|Dj z z z<|BD z z z<|Aa<|be hL1 fun r2 hr2 hL1=>wB (fun l w=>∃v3:Value,∃x4:Ta,x4=r2∧l=[(0,(I a1)),(1,(I a2)),(5,v3),(6,(I x2))]∧Ctx [] w0 w [Ad v3 x4]) ?_ ?_
   ·refine wc hr2 z (fun hr2=>?_) fun hr2=>?_
    ·refine AL<|Ae z z<|Ae z z<|Ar (vs:=[(I x2)]) hC5 Ag ty3 z z z z (fac z<|fa0) z z fun b2 w4 hC7 hB4=>?_
     have hC12:=hC7.row1i
     refine be hr2 fun x5 hx2 hr2=>AS (α:=Int) hC12 1 z (hC12.ro 0 z) (Ay _ _) Ag ty3 z hx2 z z z fun v4 w5 hC13=>?_
     try dsimp only [List.set] at hC13
     refine Af z z<|Aa<|?_
     have hC15:=hC13.f1.h1
     exact nS<|⟨v4,x5,Ab hr2,z,hC15⟩
    exact A5<|nS<|⟨v1,x1,Ab hr2,z,hC5⟩
   rintro _ w3 ⟨v3,x4,rfl,rfl,hC6⟩
   exact AL<|Ae z z<|AW z z z<|Af z z<|Aa<|nS<|⟨k1,Aw _,v3,x4,w64 (x2+1),z,hC6,hL1⟩
  refine Bi (A2 (A2 (AM ?_)))
  exact nS<|⟨v1,x1,Ab hL1,z,hC5⟩
 rintro _ w6 ⟨v2,x3,rfl,rfl,hC16⟩
 exact Ac<|Ae z z<|Af z z<|Aa<|AF<|rO hF z z hC16 0 z
theorem c_S_l4Less {w0:World} (a1:Ta) (u1:Value) (g1:RO [] w0 u1 a1) (a2:Ta) (u2:Value) (g2:RO [] w0 u2 a2) (rr:Bool) (hF:S.l4Less a1 a2=some rr) :
 Calls Tryz.prog 89 [u1,u2].toArray w0 fun e w'=>∃v,e=.returned v∧Res w0 rr v w':=by
 refine Av Tryz.func89 z z ?_
 have hC0:=A3 w0
 unfold S.l4Less at hF
 refine Ac<|Af z z<|Aa<|A0<|Ac<|Af z z<|Aa<|be hF fun r1 hr1 hF=>wN (fun l w=>.inl ()=r1∧l=[(0,u1),(1,u2)]∧Below w0.heap.size w0 w∧Ctx [] w0 w []) ?_ ?_
 ·refine A4<|wT<|Bj (fun k l w=>∃x1:Int,l=[(0,u1),(1,u2),(5,(I x1))]∧Below w0.heap.size w0 w∧Ctx [] w0 w []∧S.l4Less_l1 a1 a2 k x1=some r1) FUEL ⟨0,z,(Aj _ _),hC0,hr1⟩<|?_
  clear hr1
  rintro k1 _ w1 ⟨x1,rfl,hB1,hC1,hL1⟩
  obtain _|k1:=k1<;>rw [S.l4Less_l1] at hL1
  ·cases hL1
  refine A0<|be hL1 fun r2 hr2 hL1=>B9 (fun l w=>∃x2:Bool,x2=r2∧l=[(0,u1),(1,u2),(5,(I x1)),(15,(.bool x2))]∧Below w1.heap.size w1 w∧Ctx [] w0 w []) ?_ ?_
  ·refine AL<|Ae z z<|Ae z z<|AH Ag g1 z z<|AZ z z z<|Ae z z<|wk hr2 (fun hr2=>?_) fun hr2=>?_
   ·exact Ai z z<|Ae z z<|Ai z z<|Ae z z<|Ai z z<|AH Ag g2 z z<|Ai z z<|AZ z z z<|AJ z z z<|Aa<|nS<|⟨(decide (x1 < (List.length a2:Int))),Ab hr2,z,(Aj _ _),hC1⟩
   exact gs z z z z<|gs z z z z<|gs z z z z<|gs z z z z<|AK z z z<|Aa<|nS<|⟨false,Ab hr2,z,(Aj _ _),hC1⟩
  rintro _ w2 ⟨x2,rfl,rfl,hB2,hC2⟩
  refine wc hL1 z (fun hL1=>?_) fun hL1=>?_
  ·refine A5<|Am<|A0<|A4<|A0<|W_drawn 9 z hmix fun w3 hB3=>have hC3:=hC2.grow hB3;tm 0 z z z<|tm 1 z z z<|be hL1 fun x3 hx1 hL1=>tk 2 z z (B5 Ag ty3 g1 hx1 z z)<|A9 Ag ty3 g1 hx1 z z z fun b1 o1 h1=>Aa<|tm 4 z z z<|tm 5 z z z<|be hL1 fun x4 hx2 hL1=>tk 6 z z (B5 Ag ty3 g2 hx2 z z)<|A9 Ag ty3 g2 hx2 z z z fun b2 o2 h2=>Aa<|wAS (l':=[(0,u1),(1,u2),(5,(I x1)),(15,(.bool x2)),(18,u1),(19,(I x1)),(20,(ptr b1 o1)),(22,u2),(23,(I x1)),(24,(ptr b2 o2))]) ⟨z,z,z,z,z,z,z,z,z,z,A6⟩<|Bg [⟨3,[],fun vs=>AQ (I x3),[]⟩,⟨7,[],fun vs=>AQ (I x4),[]⟩] [[],[]] 1 z (by kernel_rfl) (by kernel_rfl) z ?_ ?_
   ·refine An z ?_ ?_
    ·intro w4 hB4
     refine At<|⟨_,z,?_⟩
     refine AD ty3 h1 (hC3.keep.then hB4) z z (fun v1 h3=>?_)
     obtain rfl:=Bo h3
     exact Aa<|A1 (Aj _ _) z z ⟨z,z⟩
    refine An z ?_ ?_
    ·intro w4 hB4
     refine At<|⟨_,z,?_⟩
     refine AD ty3 h2 (hC3.keep.then hB4) z z (fun v2 h4=>?_)
     obtain rfl:=Bo h4
     exact Aa<|A1 (Aj _ _) z z ⟨z,z⟩
    exact AX
   intro w5 hB5
   refine Ap z z z ?_
   rintro _ _ ⟨rfl,rfl⟩
   refine Ap z z z ?_
   rintro _ _ ⟨rfl,rfl⟩
   refine Bm fun hn1 hb1=>have hC4:=hC3.grow hB5;tk 8 z z (CM z z)<|BQ z z z<|Aa<|dn<|Am<|wc hL1 z (fun hL1=>?_) fun hL1=>?_
   ·refine A0<|W_drawn 10 z hmix fun w6 hB6=>have hC5:=hC4.grow hB6;tm 0 z z z<|tm 1 z z z<|be hL1 fun x5 hx3 hL1=>tk 2 z z (B5 Ag ty3 g1 hx3 z z)<|A9 Ag ty3 g1 hx3 z z z fun b3 o3 h5=>Aa<|tm 4 z z z<|tm 5 z z z<|be hL1 fun x6 hx4 hL1=>tk 6 z z (B5 Ag ty3 g2 hx4 z z)<|A9 Ag ty3 g2 hx4 z z z fun b4 o4 h6=>Aa<|wAS (l':=[(0,u1),(1,u2),(5,(I x1)),(15,(.bool x2)),(18,u1),(19,(I x1)),(20,(ptr b1 o1)),(21,(I x3)),(22,u2),(23,(I x1)),(24,(ptr b2 o2)),(25,(I x4)),(26,(.bool (!decide (x3=x4)))),(27,u1),(28,(I x1)),(29,(ptr b3 o3)),(31,u2),(32,(I x1)),(33,(ptr b4 o4))]) ⟨z,z,z,z,z,z,z,z,z,z,z,z,z,z,z,z,z,z,z,A6⟩<|Bg [⟨3,[],fun vs=>AQ (I x5),[]⟩,⟨7,[],fun vs=>AQ (I x6),[]⟩] [[],[]] 2 z (by kernel_rfl) (by kernel_rfl) z ?_ ?_
    ·refine An z ?_ ?_
     ·intro w7 hB7
      refine At<|⟨_,z,?_⟩
      refine AD ty3 h5 (hC5.keep.then hB7) z z (fun v3 h7=>?_)
      obtain rfl:=Bo h7
      exact Aa<|A1 (Aj _ _) z z ⟨z,z⟩
     refine An z ?_ ?_
     ·intro w7 hB7
      refine At<|⟨_,z,?_⟩
      refine AD ty3 h6 (hC5.keep.then hB7) z z (fun v4 h8=>?_)
      obtain rfl:=Bo h8
      exact Aa<|A1 (Aj _ _) z z ⟨z,z⟩
     exact AX
    intro w9 hB8
    refine Ap z z z ?_
    rintro _ _ ⟨rfl,rfl⟩
    refine Ap z z z ?_
    rintro _ _ ⟨rfl,rfl⟩
    refine Bm fun hn2 hb2=>have hC6:=hC5.grow hB8;tk 8 z z (fl_lss z z)<|AZ z z z<|Aa<|ta 9 z z z<|dn<|Am<|AF<|AT<|Ax<|Ax<|AT<|Ax<|Ax<|?_
    obtain rfl:=Ab hL1
    dsimp only at hF
    exact rB hF z z hC6
   exact A5<|AN<|Am<|AL<|Ae z z<|AW z z z<|Af z z<|Aa<|nS<|⟨k1,Aw _,w64 (x1+1),z,((((Ao hB1).then hB2).then hB3).then hB5).below,hC4,hL1⟩
  refine Bi (A2 (A2 (AM ?_)))
  exact nS<|⟨Ab hL1,z,((Ao hB1).then hB2).below,hC2⟩
 rintro _ w10 ⟨rfl,rfl,hB9,hC7⟩
 try dsimp only at hF
 exact Ac<|Ae z z<|AH Ag g1 z z<|Ae z z<|AH Ag g2 z z<|AZ z z z<|Af z z<|Aa<|AF<|rB hF z z hC7
theorem c_S_l15Less {w0:World} (a1:Ta) (u1:Value) (g1:RO [] w0 u1 a1) (a2:Ta) (u2:Value) (g2:RO [] w0 u2 a2) (rr:Bool) (hF:S.l15Less a1 a2=some rr) :
 Calls Tryz.prog 49 [u1,u2].toArray w0 fun e w'=>∃v,e=.returned v∧Res w0 rr v w':=by
 refine Av Tryz.func49 z z ?_
 have hC0:=A3 w0
 unfold S.l15Less at hF
 refine Ac<|Af z z<|Aa<|A0<|Ac<|Ae z z<|AH Ag g1 z z<|Ae z z<|AH Ag g2 z z<|BQ z z z<|Aa<|wc hF z (fun hF=>?_) fun hF=>?_
 ·exact Ac<|Ae z z<|AH Ag g1 z z<|Ae z z<|AH Ag g2 z z<|AZ z z z<|Af z z<|Aa<|AF<|Ax<|rB hF z z hC0
 exact A5<|Am<|Ac<|Ae z z<|Ae z z<|be hF fun x1 hr1 hF=>cb Tryz.call89 z z (c_S_l4Less a1 u1 (g1.now hC0.keep) a2 u2 (g2.now hC0.keep) x1 hr1) fun w1 hB1=>have hC1:=hC0.grow hB1;Af z z<|Aa<|AF<|rB hF z z hC1
theorem c_S_SmallestRemoval {w0:World} (a1:Ta) (u1:Value) (g1:RO [] w0 u1 a1) (a2:Tf) (u2:Value) (g2:RO [] w0 u2 a2) (a3:Tg) (u3:Value) (g3:RO [] w0 u3 a3) (rr:(Ta × Bool)) (hF:S.SmallestRemoval a1 a2 a3=some rr) :
 Calls Tryz.prog 8 [u1,u2,u3].toArray w0 fun e w'=>∃v,e=.returned v∧Res2 w0 rr.1 rr.2 v w':=by
 refine Av Tryz.func8 z z ?_
 have hC0:=A3 w0
 unfold S.SmallestRemoval at hF
 refine Ac<|Af z z<|Af z z<|Aa<|Ac<|Ar (vs:=[]) hC0 Ag ty3 z z z z (by simp) z z fun b1 w1 hC1 hB1=>?_
 have hC4:=hC1.rowE (α:=Int)
 refine Af z z<|Aa<|Ac<|Af z z<|Aa<|A0<|be hF fun r1 hr1 hF=>B9 (fun l w=>∃x1:Bool,x1=r1∧l=[(0,u1),(1,u2),(2,u3),(8,(.slice (some ⟨b1,0,none⟩) 0 0)),(9,(.bool false)),(21,(.bool x1))]∧Below w1.heap.size w1 w∧Ctx [] w0 w [Ad (.slice (some ⟨b1,0,none⟩) 0 0) (([]:List Int):Ta)]) ?_ ?_
 ·refine AL<|Ae z z<|Ae z z<|be hr1 fun x2 hr2 hr1=>cb CL z z (c_S_AreMethods a1 u1 (g1.now hC4.keep) a2 u2 (g2.now hC4.keep) x2 hr2) fun w3 hB3=>have hC6:=hC4.grow hB3;Bv z z<|Ae z z<|wk hr1 (fun hr1=>?_) fun hr1=>?_
  ·exact gs z z z z<|gs z z z z<|gs z z z z<|AJ z z z<|Aa<|nS<|⟨true,Ab hr1,z,(Ao hB3).below,hC6⟩
  exact Ai z z<|Ae z z<|Ai z z<|AH A8 g3 z z<|Ai z z<|Ck z z z<|AK z z z<|Aa<|nS<|⟨(decide (8 < (List.length a3:Int))),Ab hr1,z,(Ao hB3).below,hC6⟩
 rintro _ w2 ⟨x1,rfl,rfl,hB2,hC5⟩
 refine wc hF z (fun hF=>?_) fun hF=>?_
 ·refine Ac<|Ae z z<|Af z z<|Af z z<|Aa<|AF<|Ax<|?_
  obtain rfl:=Ab hF
  refine CT z z z ?_
  have hC7:=hC5.triv (BN (false))
  have hC8:=hC7.f1
  exact ⟨_,z,res2_of hC8⟩
 refine A5<|Am<|A0<|Ac<|Af z z<|Aa<|be hF fun r2 hr3 hF=>wN (fun l w=>∃v2:Value,∃x6:Ta,∃x7:Bool,(x6,x7)=r2∧l=[(8,v2),(9,(.bool x7))]∧Below w2.heap.size w2 w∧Ctx [] w0 w [Ad v2 x6]) ?_ ?_
 ·refine A4<|wT<|Bj (fun k l w=>∃v1:Value,∃x3:Ta,∃x4:Bool,∃x5:Int,l=[(0,u1),(1,u2),(2,u3),(8,v1),(9,(.bool x4)),(10,(I x5))]∧Below w2.heap.size w2 w∧Ctx [] w0 w [Ad v1 x3]∧S.SmallestRemoval_l1 a3 a1 a2 k x3 x4 x5=some r2) FUEL ⟨(.slice (some ⟨b1,0,none⟩) 0 0),([]:List Int),false,0,z,(Aj _ _),hC5,hr3⟩<|?_
  clear hr3
  rintro k1 _ w4 ⟨v1,x3,x4,x5,rfl,hB4,hC9,hL1⟩
  obtain _|k1:=k1<;>rw [S.SmallestRemoval_l1] at hL1
  ·cases hL1
  refine A0<|Ac<|Ae z z<|Ae z z<|AH A8 g3 z z<|be hL1 fun _ hx1 hL1=>WL_shl (nn_some hx1) z z z<|AZ z z z<|Aa<|wc hL1 z (fun hL1=>?_) fun hL1=>?_
  ·refine A5<|Am<|A0<|A4<|Ac<|Ae z z<|Ae z z<|AH A8 g3 z z<|be hL1 fun x8 hr4 hL1=>AA Tryz.call48 z z (c_S_l15Set x5 (List.length a3:Int) x8 hr4)<|?_
   rintro v3 w5 ⟨hB5,F1,hv2,hn1,hb1⟩
   have hC10:=hC9.push hB5 (A:=Ad v3 x8) hv2 hn1 hb1
   refine Af z z<|Aa<|A0<|be hL1 fun r3 hr5 hL1=>B9 (fun l w=>∃x9:Bool,x9=r3∧l=[(0,u1),(1,u2),(2,u3),(8,v1),(9,(.bool x4)),(10,(I x5)),(11,v3),(40,(.bool x9))]∧Below w5.heap.size w5 w∧Ctx [] w0 w [Ad v3 x8,Ad v1 x3]) ?_ ?_
   ·refine AL<|Ae z z<|Ae z z<|wk hr5 (fun hr5=>?_) fun hr5=>?_
    ·exact Ai z z<|Ae z z<|Ai z z<|Ae z z<|be hr5 fun x10 hr6 hr5=>Ai z z<|cb Tryz.call49 z z (c_S_l15Less x8 v3 ((hC10.ro 0 z).now (Ay _ _)) x3 v1 ((hC10.ro 1 z).now (Ay _ _)) x10 hr6) fun w7 hB7=>have hC12:=hC10.grow hB7;Ai z z<|Bv z z<|AJ z z z<|Aa<|nS<|⟨(!x10),Ab hr5,z,(Ao hB7).below,hC12⟩
    exact gs z z z z<|gs z z z z<|gs z z z z<|gs z z z z<|AK z z z<|Aa<|nS<|⟨false,Ab hr5,z,(Aj _ _),hC10⟩
   rintro _ w6 ⟨x9,rfl,rfl,hB6,hC11⟩
   refine wc hL1 z (fun hL1=>?_) fun hL1=>?_
   ·exact Bi<|A2<|AM<|Am<|AL<|Ae z z<|AW z z z<|Af z z<|Aa<|have hC13:=hC11.f1;have hC14:=hC13.h1;nS<|⟨k1,Aw _,v1,x3,x4,w64 (x5+1),z,(((Ao hB4).then hB5).then hB6).below,hC14,hL1⟩
   refine A5<|Am<|Ac<|Ae z z<|Ae z z<|Ae z z<|Ae z z<|be hL1 fun x11 hr7 hL1=>AA Dc z z (c_S_Without a3 u3 (g3.now hC11.keep) x8 v3 ((hC11.ro 0 z).now (Ay _ _)) x11 hr7)<|?_
   rintro v4 w9 ⟨hB8,F2,hv4,hn2,hb2⟩
   have hC15:=hC11.push hB8 (A:=Ad v4 x11) hv4 hn2 hb2
   refine be hL1 fun x12 hr8 hL1=>cb Tryz.call21 z z (c_S_IsConsistent a1 u1 (g1.now hC15.keep) a2 u2 (g2.now hC15.keep) x11 v4 ((hC15.ro 0 z).now (Ay _ _)) x12 hr8) fun w10 hB9=>have hC16:=hC15.grow hB9;Aa<|be hL1 fun r4 hr9 hL1=>wB (fun l w=>∃v5:Value,∃x13:Ta,∃x14:Bool,(x13,x14)=r4∧l=[(0,u1),(1,u2),(2,u3),(8,v5),(9,(.bool x14)),(10,(I x5))]∧Below w10.heap.size w10 w∧Ctx [] w0 w [Ad v5 x13]) ?_ ?_
   ·refine wc hr9 z (fun hr9=>?_) fun hr9=>?_
    ·refine Ac<|Ae z z<|Af z z<|Aa<|AL<|Af z z<|Aa<|?_
     have hC19:=hC16.f1.h1
     exact nS<|⟨v3,x8,true,Ab hr9,z,(Aj _ _),hC19⟩
    refine A5 ?_
    have hC21:=hC16.f2.h1
    exact nS<|⟨v1,x3,x4,Ab hr9,z,(Aj _ _),hC21⟩
   rintro _ w11 ⟨v5,x13,x14,rfl,rfl,hB10,hC17⟩
   try dsimp only at hL1
   exact AL<|Ae z z<|AW z z z<|Af z z<|Aa<|nS<|⟨k1,Aw _,v5,x13,x14,w64 (x5+1),z,((((((Ao hB4).then hB5).then hB6).then hB8).then hB9).then hB10).below,hC17,hL1⟩
  refine Bi (A2 (A2 (AM ?_)))
  exact nS<|⟨v1,x3,x4,Ab hL1,z,(Ao hB4).below,hC9⟩
 rintro _ w12 ⟨v2,x6,x7,rfl,rfl,hB11,hC22⟩
 try dsimp only at hF
 refine Ac<|Ae z z<|Ae z z<|Af z z<|Af z z<|Aa<|AF<|?_
 obtain rfl:=Ab hF
 refine CT z z z ?_
 have hC23:=hC22.triv (BN (x7))
 have hC24:=hC23.f1
 exact ⟨_,z,res2_of hC24⟩
theorem c_M_AllRemovals {w0:World} (a1:Ta) (u1:Value) (g1:RO [] w0 u1 a1) (a2:Tf) (u2:Value) (g2:RO [] w0 u2 a2) (a3:Tg) (u3:Value) (g3:RO [] w0 u3 a3) (rr:Tj) (hF:M.AllRemovals a1 a2 a3=some rr) :
 Calls Tryz.prog 9 [u1,u2,u3].toArray w0 fun e w'=>∃v,e=.returned v∧Res w0 rr v w':=by
 refine Av Tryz.func9 z z ?_
 have hC0:=A3 w0
 unfold M.AllRemovals at hF
 refine Ac<|Af z z<|Aa<|Ac<|Ae z z<|Ae z z<|Ae z z<|be hF fun x1 hr1 hF=>AA Tryz.call46 z z (c_M_removals a1 u1 (g1.now hC0.keep) a2 u2 (g2.now hC0.keep) a3 u3 (g3.now hC0.keep) x1 hr1)<|?_
 rintro _ w1 ⟨hB1,v1,v2,F1,F2,rfl,hv1,hv2,hn1,hb1⟩
 obtain ⟨rfl,rfl⟩:=val_bool hv2
 have hC1:=hC0.pushL hB1 (Bs:=[Ad v1 x1.1]) (Fs:=[F1]) ⟨F1,_,z,hv1,z⟩ (by simpa using hn1) (fun b h=>hb1 b (by simpa using h))
 exact Ae z z<|Bk z z z<|Bk z z z<|Af z z<|Af z z<|Aa<|Ac<|Ae z z<|Af z z<|Aa<|AF<|rO hF z z hC1 0 z
theorem c_S_l2Ints {w0:World} (a1:Ta) (u1:Value) (g1:RO [] w0 u1 a1) (a2:Ta) (u2:Value) (g2:RO [] w0 u2 a2) (rr:Bool) (hF:S.l2Ints a1 a2=some rr) :
 Calls Tryz.prog 51 [u1,u2].toArray w0 fun e w'=>∃v,e=.returned v∧Res w0 rr v w':=by
 refine Av Tryz.func51 z z ?_
 have hC0:=A3 w0
 unfold S.l2Ints at hF
 refine Ac<|Af z z<|Aa<|A0<|Ac<|Ae z z<|AH Ag g1 z z<|Ae z z<|AH Ag g2 z z<|BQ z z z<|Aa<|wc hF z (fun hF=>?_) fun hF=>?_
 ·exact Ac<|Af z z<|Aa<|AF<|Ax<|rB hF z z hC0
 refine A5<|Am<|A0<|Ac<|Af z z<|Aa<|be hF fun r1 hr1 hF=>wN (fun l w=>.inl ()=r1∧l=[]∧Below w0.heap.size w0 w∧Ctx [] w0 w []) ?_ ?_
 ·refine A4<|wT<|Bj (fun k l w=>∃x1:Int,l=[(0,u1),(1,u2),(5,(I x1))]∧Below w0.heap.size w0 w∧Ctx [] w0 w []∧S.l2Ints_l1 a1 a2 k x1=some r1) FUEL ⟨0,z,(Aj _ _),hC0,hr1⟩<|?_
  clear hr1
  rintro k1 _ w1 ⟨x1,rfl,hB1,hC1,hL1⟩
  obtain _|k1:=k1<;>rw [S.l2Ints_l1] at hL1
  ·cases hL1
  refine A0<|Ac<|Ae z z<|Ae z z<|AH Ag g1 z z<|AZ z z z<|Aa<|wc hL1 z (fun hL1=>?_) fun hL1=>?_
  ·refine A5<|Am<|A0<|A4<|A0<|W_drawn 9 z hmix fun w2 hB2=>have hC2:=hC1.grow hB2;tm 0 z z z<|tm 1 z z z<|be hL1 fun x2 hx1 hL1=>tk 2 z z (B5 Ag ty3 g1 hx1 z z)<|A9 Ag ty3 g1 hx1 z z z fun b1 o1 h1=>Aa<|tm 4 z z z<|tm 5 z z z<|be hL1 fun x3 hx2 hL1=>tk 6 z z (B5 Ag ty3 g2 hx2 z z)<|A9 Ag ty3 g2 hx2 z z z fun b2 o2 h2=>Aa<|wAS (l':=[(0,u1),(1,u2),(5,(I x1)),(11,(I x1)),(12,u1),(13,(I (List.length a1:Int))),(14,(.bool (decide (x1 < (List.length a1:Int))))),(17,u1),(18,(I x1)),(19,(ptr b1 o1)),(21,u2),(22,(I x1)),(23,(ptr b2 o2))]) ⟨z,z,z,z,z,z,z,z,z,z,z,z,z,A6⟩<|Bg [⟨3,[],fun vs=>AQ (I x2),[]⟩,⟨7,[],fun vs=>AQ (I x3),[]⟩] [[],[]] 1 z (by kernel_rfl) (by kernel_rfl) z ?_ ?_
   ·refine An z ?_ ?_
    ·intro w3 hB3
     refine At<|⟨_,z,?_⟩
     refine AD ty3 h1 (hC2.keep.then hB3) z z (fun v1 h3=>?_)
     obtain rfl:=Bo h3
     exact Aa<|A1 (Aj _ _) z z ⟨z,z⟩
    refine An z ?_ ?_
    ·intro w3 hB3
     refine At<|⟨_,z,?_⟩
     refine AD ty3 h2 (hC2.keep.then hB3) z z (fun v2 h4=>?_)
     obtain rfl:=Bo h4
     exact Aa<|A1 (Aj _ _) z z ⟨z,z⟩
    exact AX
   intro w4 hB4
   refine Ap z z z ?_
   rintro _ _ ⟨rfl,rfl⟩
   refine Ap z z z ?_
   rintro _ _ ⟨rfl,rfl⟩
   refine Bm fun hn1 hb1=>have hC3:=hC2.grow hB4;tk 8 z z (CM z z)<|BQ z z z<|Aa<|dn<|Am<|wc hL1 z (fun hL1=>?_) fun hL1=>?_
   ·refine Ac<|Af z z<|Aa<|AF<|AT<|Ax<|Ax<|AT<|Ax<|Ax<|?_
    obtain rfl:=Ab hL1
    dsimp only at hF
    exact rB hF z z hC3
   exact A5<|AN<|Am<|AL<|Ae z z<|AW z z z<|Af z z<|Aa<|nS<|⟨k1,Aw _,w64 (x1+1),z,(((Ao hB1).then hB2).then hB4).below,hC3,hL1⟩
  refine Bi (A2 (A2 (AM ?_)))
  exact nS<|⟨Ab hL1,z,(Ao hB1).below,hC1⟩
 rintro _ w5 ⟨rfl,rfl,hB5,hC4⟩
 try dsimp only at hF
 exact Ac<|Af z z<|Aa<|AF<|rB hF z z hC4
theorem c_S_AddTuple {w0:World} (a1:Tj) (u1:Value) (g1:RO [] w0 u1 a1) (a2:Ta) (u2:Value) (g2:RO [] w0 u2 a2) (rr:Tj) (hF:S.AddTuple a1 a2=some rr) :
 Calls Tryz.prog 50 [u1,u2].toArray w0 fun e w'=>∃v,e=.returned v∧Res w0 rr v w':=by
 refine Av Tryz.func50 z z ?_
 have hC0:=A3 w0
 unfold S.AddTuple at hF
 refine Ac<|Af z z<|Aa<|Ac<|Ar (vs:=[]) hC0 AC ty24 z z z z (by simp) z z fun b1 w1 hC1 hB1=>?_
 have hC4:=hC1.rowE (α:=Ta)
 refine Af z z<|Aa<|Ac<|Af z z<|Aa<|A0<|Ac<|Af z z<|Aa<|be hF fun r1 hr1 hF=>wN (fun l w=>∃x3:Bool,x3=r1∧l=[(0,u1),(1,u2),(5,(.slice (some ⟨b1,0,none⟩) 0 0)),(6,(.bool x3))]∧Below w1.heap.size w1 w∧Ctx [] w0 w [Ad (.slice (some ⟨b1,0,none⟩) 0 0) (([]:List Ta):Tj)]) ?_ ?_
 ·refine A4<|wT<|Bj (fun k l w=>∃x1:Bool,∃x2:Int,l=[(0,u1),(1,u2),(5,(.slice (some ⟨b1,0,none⟩) 0 0)),(6,(.bool x1)),(7,(I x2))]∧Below w1.heap.size w1 w∧Ctx [] w0 w [Ad (.slice (some ⟨b1,0,none⟩) 0 0) (([]:List Ta):Tj)]∧S.AddTuple_l1 a1 a2 k x1 x2=some r1) FUEL ⟨false,0,z,(Aj _ _),hC4,hr1⟩<|?_
  clear hr1
  rintro k1 _ w2 ⟨x1,x2,rfl,hB2,hC5,hL1⟩
  obtain _|k1:=k1<;>rw [S.AddTuple_l1] at hL1
  ·cases hL1
  refine A0<|Ac<|Ae z z<|Ae z z<|AH AC g1 z z<|AZ z z z<|Aa<|wc hL1 z (fun hL1=>?_) fun hL1=>?_
  ·refine A5<|Am<|A0<|A4<|be hL1 fun r2 hr2 hL1=>wB (fun l w=>∃x4:Bool,x4=r2∧l=[(0,u1),(1,u2),(5,(.slice (some ⟨b1,0,none⟩) 0 0)),(6,(.bool x4)),(7,(I x2))]∧Below w2.heap.size w2 w∧Ctx [] w0 w [Ad (.slice (some ⟨b1,0,none⟩) 0 0) (([]:List Ta):Tj)]) ?_ ?_
   ·refine AL<|Ae z z<|Ae z z<|wk hr2 (fun hr2=>?_) fun hr2=>?_
    ·exact gs z z z z<|gs z z z z<|gs z z z z<|gs z z z z<|gs z z z z<|gs z z z z<|AJ z z z<|Af z z<|Aa<|nS<|⟨true,Ab hr2,z,(Aj _ _),hC5⟩
    exact Ai z z<|Ae z z<|Ai z z<|Ae z z<|be hr2 fun x5 hx1 hr2=>Ai z z<|A9 AC ty24 g1 hx1 z z z fun b2 o1 h1=>Ai z z<|AD ty24 h1 hC5.keep z z fun v1 h2=>Ai z z<|Ae z z<|be hr2 fun x6 hr3 hr2=>Ai z z<|cb Tryz.call51 z z (c_S_l2Ints x5 v1 (h2.now hC5.keep) a2 u2 (g2.now hC5.keep) x6 hr3) fun w4 hB4=>have hC7:=hC5.grow hB4;AK z z z<|Af z z<|Aa<|nS<|⟨x6,Ab hr2,z,(Ao hB4).below,hC7⟩
   rintro _ w3 ⟨x4,rfl,rfl,hB3,hC6⟩
   exact AL<|Ae z z<|AW z z z<|Af z z<|Aa<|nS<|⟨k1,Aw _,x4,w64 (x2+1),z,((Ao hB2).then hB3).below,hC6,hL1⟩
  refine Bi (A2 (A2 (AM ?_)))
  exact nS<|⟨x1,Ab hL1,z,(Ao hB2).below,hC5⟩
 rintro _ w5 ⟨x3,rfl,rfl,hB5,hC8⟩
 refine A0<|Ac<|Af z z<|Aa<|be hF fun r3 hr4 hF=>wN (fun l w=>∃v3:Value,∃x10:Tj,∃x11:Bool,(x10,x11)=r3∧l=[(1,u2),(5,v3),(6,(.bool x11))]∧Ctx [] w0 w [Ad v3 x10]) ?_ ?_
 ·refine A4<|wT<|Bj (fun k l w=>∃v2:Value,∃x7:Tj,∃x8:Bool,∃x9:Int,l=[(0,u1),(1,u2),(5,v2),(6,(.bool x8)),(8,(I x9))]∧Ctx [] w0 w [Ad v2 x7]∧S.AddTuple_l2 a1 a2 k x7 x8 x9=some r3) FUEL ⟨(.slice (some ⟨b1,0,none⟩) 0 0),([]:List Ta),x3,0,z,hC8,hr4⟩<|?_
  clear hr4
  rintro k2 _ w6 ⟨v2,x7,x8,x9,rfl,hC9,hL2⟩
  obtain _|k2:=k2<;>rw [S.AddTuple_l2] at hL2
  ·cases hL2
  refine A0<|Ac<|Ae z z<|Ae z z<|AH AC g1 z z<|AZ z z z<|Aa<|wc hL2 z (fun hL2=>?_) fun hL2=>?_
  ·refine A5<|Am<|A0<|A4<|A0<|be hL2 fun r4 hr5 hL2=>B9 (fun l w=>∃x12:Bool,x12=r4∧l=[(0,u1),(1,u2),(5,v2),(6,(.bool x8)),(8,(I x9)),(40,(.bool x12))]∧Below w6.heap.size w6 w∧Ctx [] w0 w [Ad v2 x7]) ?_ ?_
   ·refine AL<|Ae z z<|Bv z z<|Ae z z<|wk hr5 (fun hr5=>?_) fun hr5=>?_
    ·exact Ai z z<|Ae z z<|Ai z z<|Ae z z<|Ai z z<|Ae z z<|be hr5 fun x13 hx2 hr5=>Ai z z<|A9 AC ty24 g1 hx2 z z z fun b3 o2 h3=>Ai z z<|AD ty24 h3 hC9.keep z z fun v4 h4=>be hr5 fun x14 hr6 hr5=>Ai z z<|cb Tryz.call89 z z (c_S_l4Less a2 u2 (g2.now hC9.keep) x13 v4 (h4.now hC9.keep) x14 hr6) fun w9 hB8=>have hC11:=hC9.grow hB8;AJ z z z<|Aa<|nS<|⟨x14,Ab hr5,z,(Ao hB8).below,hC11⟩
    exact gs z z z z<|gs z z z z<|gs z z z z<|gs z z z z<|gs z z z z<|gs z z z z<|AK z z z<|Aa<|nS<|⟨false,Ab hr5,z,(Aj _ _),hC9⟩
   rintro _ w7 ⟨x12,rfl,rfl,hB7,hC10⟩
   refine be hL2 fun r5 hr7 hL2=>wN (fun l w=>∃v5:Value,∃x15:Tj,∃x16:Bool,(x15,x16)=r5∧l=[(0,u1),(1,u2),(5,v5),(6,(.bool x16)),(8,(I x9))]∧Ctx [] w0 w [Ad v5 x15]) ?_ ?_
   ·refine wc hr7 z (fun hr7=>?_) fun hr7=>?_
    ·refine Ac<|Ae z z<|Ar (vs:=[]) hC10 Ag ty3 z z z z (by simp) z z fun b4 w11 hC13 hB10=>?_
     have hC16:=hC13.rowE (α:=Int)
     refine Ae z z<|be hr7 fun x17 hx3 hr7=>AS (α:=Int) hC16 0 z g2 hC16.keep Ag ty3 z hx3 z z z fun v6 w12 hC17=>?_
     try dsimp only [List.set] at hC17
     refine Ar (vs:=[v6]) hC17 AC ty24 z z z z (by intro v hv; simp only [List.mem_cons,List.not_mem_nil,or_false] at hv; rcases hv with rfl; exact (by rw [ro_cells (hC17.ro 0 z)]; rfl)) (by simp only [List.flatMap_cons,List.flatMap_nil,ro_cells (hC17.ro 0 z)]; rfl) z (fun b5 w13 hC18 hB11=>?_)
     have hC19:=hC18.row0 (α:=Ta)
     have hC20:=hC19.f2
     have hz1:=ro_cells (hC20.ro 0 z)
     have hC21:=hC20.row1
     rw [hz1] at hC21
     have hC22:=hC21.front 1 z
     dsimp only [List.eraseIdx,List.cons_append,List.nil_append,List.append_nil] at hC22
     have hC23:Ctx [] w0 w13 (Ad (.slice (some ⟨b5,0,none⟩) 1 1) ([x17]:List Ta)::[Ad v2 x7]):=hC22.rowOwn (by simp [maxLen])
     refine be hr7 fun x18 hx4 hr7=>Bf hC23 0 z AC ty24 z hx4 z z z fun v7 w14 hC24=>?_
     try dsimp only [List.set] at hC24
     exact Af z z<|Aa<|AL<|Af z z<|Aa<|nS<|⟨v7,x18,true,Ab hr7,z,hC24⟩
    exact A5<|nS<|⟨v2,x7,x8,Ab hr7,z,hC10⟩
   rintro _ w10 ⟨v5,x15,x16,rfl,rfl,hC12⟩
   try dsimp only at hL2
   refine AL<|Ae z z<|Ar (vs:=[]) hC12 Ag ty3 z z z z (by simp) z z fun b6 w15 hC26 hB12=>?_
   have hC29:=hC26.rowE (α:=Int)
   refine Ae z z<|Ae z z<|be hL2 fun x19 hx5 hL2=>A9 AC ty24 g1 hx5 z z z fun b7 o3 h5=>AD ty24 h5 hC29.keep z z fun v8 h6=>be hL2 fun x20 hx6 hL2=>AS (α:=Int) hC29 0 z h6 hC29.keep Ag ty3 z hx6 z z z fun v9 w16 hC30=>?_
   try dsimp only [List.set] at hC30
   refine Ar (vs:=[v9]) hC30 AC ty24 z z z z (by intro v hv; simp only [List.mem_cons,List.not_mem_nil,or_false] at hv; rcases hv with rfl; exact (by rw [ro_cells (hC30.ro 0 z)]; rfl)) (by simp only [List.flatMap_cons,List.flatMap_nil,ro_cells (hC30.ro 0 z)]; rfl) z (fun b8 w17 hC31 hB13=>?_)
   have hC32:=hC31.row0 (α:=Ta)
   have hC33:=hC32.f2
   have hz2:=ro_cells (hC33.ro 0 z)
   have hC34:=hC33.row1
   rw [hz2] at hC34
   have hC35:=hC34.front 1 z
   dsimp only [List.eraseIdx,List.cons_append,List.nil_append,List.append_nil] at hC35
   have hC36:Ctx [] w0 w17 (Ad (.slice (some ⟨b8,0,none⟩) 1 1) ([x20]:List Ta)::[Ad v5 x15]):=hC35.rowOwn (by simp [maxLen])
   refine be hL2 fun x21 hx7 hL2=>Bf hC36 0 z AC ty24 z hx7 z z z fun v10 w18 hC37=>?_
   try dsimp only [List.set] at hC37
   exact Af z z<|Aa<|AN<|Am<|AL<|Ae z z<|AW z z z<|Af z z<|Aa<|nS<|⟨k2,Aw _,v10,x21,x16,w64 (x9+1),z,hC37,hL2⟩
  refine Bi (A2 (A2 (AM ?_)))
  exact nS<|⟨v2,x7,x8,Ab hL2,z,hC9⟩
 rintro _ w19 ⟨v3,x10,x11,rfl,rfl,hC39⟩
 try dsimp only at hF
 refine A0<|Ac<|Ae z z<|Bv z z<|Aa<|be hF fun r6 hr8 hF=>wN (fun l w=>∃v11:Value,∃x22:Tj,x22=r6∧l=[(5,v11)]∧Ctx [] w0 w [Ad v11 x22]) ?_ ?_
 ·refine wc hr8 z (fun hr8=>?_) fun hr8=>?_
  ·refine AL<|Ae z z<|Ar (vs:=[]) hC39 Ag ty3 z z z z (by simp) z z fun b9 w21 hC41 hB16=>?_
   have hC44:=hC41.rowE (α:=Int)
   refine Ae z z<|be hr8 fun x23 hx8 hr8=>AS (α:=Int) hC44 0 z g2 hC44.keep Ag ty3 z hx8 z z z fun v12 w22 hC45=>?_
   try dsimp only [List.set] at hC45
   refine Ar (vs:=[v12]) hC45 AC ty24 z z z z (by intro v hv; simp only [List.mem_cons,List.not_mem_nil,or_false] at hv; rcases hv with rfl; exact (by rw [ro_cells (hC45.ro 0 z)]; rfl)) (by simp only [List.flatMap_cons,List.flatMap_nil,ro_cells (hC45.ro 0 z)]; rfl) z (fun b10 w23 hC46 hB17=>?_)
   have hC47:=hC46.row0 (α:=Ta)
   have hC48:=hC47.f2
   have hz3:=ro_cells (hC48.ro 0 z)
   have hC49:=hC48.row1
   rw [hz3] at hC49
   have hC50:=hC49.front 1 z
   dsimp only [List.eraseIdx,List.cons_append,List.nil_append,List.append_nil] at hC50
   have hC51:Ctx [] w0 w23 (Ad (.slice (some ⟨b10,0,none⟩) 1 1) ([x23]:List Ta)::[Ad v3 x10]):=hC50.rowOwn (by simp [maxLen])
   refine be hr8 fun x24 hx9 hr8=>Bf hC51 0 z AC ty24 z hx9 z z z fun v13 w24 hC52=>?_
   try dsimp only [List.set] at hC52
   exact Af z z<|Aa<|nS<|⟨v13,x24,Ab hr8,z,hC52⟩
  exact A5<|nS<|⟨v3,x10,Ab hr8,z,hC39⟩
 rintro _ w20 ⟨v11,x22,rfl,rfl,hC40⟩
 exact Ac<|Ae z z<|Af z z<|Aa<|AF<|rO hF z z hC40 0 z
theorem c_S_AllRemovals {w0:World} (a1:Ta) (u1:Value) (g1:RO [] w0 u1 a1) (a2:Tf) (u2:Value) (g2:RO [] w0 u2 a2) (a3:Tg) (u3:Value) (g3:RO [] w0 u3 a3) (rr:Tj) (hF:S.AllRemovals a1 a2 a3=some rr) :
 Calls Tryz.prog 10 [u1,u2,u3].toArray w0 fun e w'=>∃v,e=.returned v∧Res w0 rr v w':=by
 refine Av Tryz.func10 z z ?_
 have hC0:=A3 w0
 unfold S.AllRemovals at hF
 refine Ac<|Af z z<|Aa<|Ac<|Ar (vs:=[]) hC0 AC ty24 z z z z (by simp) z z fun b1 w1 hC1 hB1=>?_
 have hC4:=hC1.rowE (α:=Ta)
 refine Af z z<|Aa<|Ac<|Ae z z<|Ae z z<|Ae z z<|be hF fun x1 hr1 hF=>AA Tryz.call8 z z (c_S_SmallestRemoval a1 u1 (g1.now hC4.keep) a2 u2 (g2.now hC4.keep) a3 u3 (g3.now hC4.keep) x1 hr1)<|?_
 rintro _ w2 ⟨hB2,v1,v2,F1,F2,rfl,hv1,hv2,hn1,hb1⟩
 obtain ⟨rfl,rfl⟩:=val_bool hv2
 have hC5:=hC4.pushL hB2 (Bs:=[Ad v1 x1.1]) (Fs:=[F1]) ⟨F1,_,z,hv1,z⟩ (by simpa using hn1) (fun b h=>hb1 b (by simpa using h))
 refine Ae z z<|Bk z z z<|Bk z z z<|Af z z<|Af z z<|Aa<|A0<|Ac<|Af z z<|Aa<|be hF fun r1 hr2 hF=>wN (fun l w=>∃v4:Value,∃x4:Tj,x4=r1∧l=[(7,v4)]∧Below w2.heap.size w2 w∧Ctx [] w0 w [Ad v4 x4]) ?_ ?_
 ·refine A4<|wT<|Bj (fun k l w=>∃v3:Value,∃x2:Tj,∃x3:Int,l=[(0,u1),(1,u2),(2,u3),(7,v3),(8,v1),(9,(.bool x1.2)),(10,(I x3))]∧Below w2.heap.size w2 w∧Ctx [] w0 w [Ad v1 x1.1,Ad v3 x2]∧S.AllRemovals_l1 a3 x1 a1 a2 k x2 x3=some r1) FUEL ⟨(.slice (some ⟨b1,0,none⟩) 0 0),([]:List Ta),0,z,(Aj _ _),hC5,hr2⟩<|?_
  clear hr2
  rintro k1 _ w3 ⟨v3,x2,x3,rfl,hB3,hC6,hL1⟩
  obtain _|k1:=k1<;>rw [S.AllRemovals_l1] at hL1
  ·cases hL1
  refine A0<|be hL1 fun r2 hr3 hL1=>B9 (fun l w=>∃x5:Bool,x5=r2∧l=[(0,u1),(1,u2),(2,u3),(7,v3),(8,v1),(9,(.bool x1.2)),(10,(I x3)),(27,(.bool x5))]∧Below w3.heap.size w3 w∧Ctx [] w0 w [Ad v1 x1.1,Ad v3 x2]) ?_ ?_
  ·refine AL<|Ae z z<|Ae z z<|AH A8 g3 z z<|be hr3 fun _ hx1 hr3=>WL_shl (nn_some hx1) z z z<|AZ z z z<|Ae z z<|wk hr3 (fun hr3=>?_) fun hr3=>?_
   ·exact Ai z z<|Ae z z<|AJ z z z<|Aa<|nS<|⟨x1.2,Ab hr3,z,(Aj _ _),hC6⟩
   exact gs z z z z<|AK z z z<|Aa<|nS<|⟨false,Ab hr3,z,(Aj _ _),hC6⟩
  rintro _ w4 ⟨x5,rfl,rfl,hB4,hC7⟩
  refine wc hL1 z (fun hL1=>?_) fun hL1=>?_
  ·refine A5<|Am<|A0<|A4<|Ac<|Ae z z<|Ae z z<|AH A8 g3 z z<|be hL1 fun x6 hr4 hL1=>AA Tryz.call48 z z (c_S_l15Set x3 (List.length a3:Int) x6 hr4)<|?_
   rintro v5 w5 ⟨hB5,F3,hv3,hn2,hb2⟩
   have hC8:=hC7.push hB5 (A:=Ad v5 x6) hv3 hn2 hb2
   refine Af z z<|Aa<|be hL1 fun r3 hr5 hL1=>B9 (fun l w=>∃x7:Bool,x7=r3∧l=[(0,u1),(1,u2),(2,u3),(7,v3),(8,v1),(9,(.bool x1.2)),(10,(I x3)),(11,v5),(46,(.bool x7))]∧Below w5.heap.size w5 w∧Ctx [] w0 w [Ad v5 x6,Ad v1 x1.1,Ad v3 x2]) ?_ ?_
   ·refine AL<|Ae z z<|AH Ag (hC8.ro 0 z) z z<|Ae z z<|AH Ag (hC8.ro 1 z) z z<|BD z z z<|Ae z z<|wk hr5 (fun hr5=>?_) fun hr5=>?_
    ·refine Ai z z<|Ae z z<|Ai z z<|Ae z z<|Ai z z<|Ae z z<|Ai z z<|Ae z z<|be hr5 fun x8 hr6 hr5=>Ai z z<|AA Dc z z (c_S_Without a3 u3 (g3.now hC8.keep) x6 v5 ((hC8.ro 0 z).now (Ay _ _)) x8 hr6)<|?_
     rintro v6 w7 ⟨hB7,F4,hv4,hn3,hb3⟩
     have hC10:=hC8.push hB7 (A:=Ad v6 x8) hv4 hn3 hb3
     refine be hr5 fun x9 hr7 hr5=>Ai z z<|cb Tryz.call21 z z (c_S_IsConsistent a1 u1 (g1.now hC10.keep) a2 u2 (g2.now hC10.keep) x8 v6 ((hC10.ro 0 z).now (Ay _ _)) x9 hr7) fun w9 hB8=>have hC11:=hC10.grow hB8;AJ z z z<|Aa<|?_
     have hC15:=hC11.f3.f3.f3.h3
     exact nS<|⟨x9,Ab hr5,z,((Ao hB7).then hB8).below,hC15⟩
    exact gs z z z z<|gs z z z z<|gs z z z z<|gs z z z z<|gs z z z z<|gs z z z z<|AK z z z<|Aa<|nS<|⟨false,Ab hr5,z,(Aj _ _),hC8⟩
   rintro _ w6 ⟨x7,rfl,rfl,hB6,hC9⟩
   refine be hL1 fun r4 hr8 hL1=>wB (fun l w=>∃v7:Value,∃x10:Tj,x10=r4∧l=[(0,u1),(1,u2),(2,u3),(7,v7),(8,v1),(9,(.bool x1.2)),(10,(I x3))]∧Below w6.heap.size w6 w∧Ctx [] w0 w [Ad v1 x1.1,Ad v7 x10]) ?_ ?_
   ·refine wc hr8 z (fun hr8=>?_) fun hr8=>?_
    ·refine AL<|Ae z z<|Ae z z<|be hr8 fun x11 hr9 hr8=>AA Tryz.call50 z z (c_S_AddTuple x2 v3 ((hC9.ro 2 z).now (Ay _ _)) x6 v5 ((hC9.ro 0 z).now (Ay _ _)) x11 hr9)<|?_
     rintro v8 w11 ⟨hB10,F5,hv6,hn4,hb4⟩
     have hC17:=hC9.push hB10 (A:=Ad v8 x11) hv6 hn4 hb4
     refine Af z z<|Aa<|?_
     have hC19:=hC17.f2.h2
     exact nS<|⟨v8,x11,Ab hr8,z,(Ao hB10).below,hC19⟩
    refine A5 ?_
    have hC22:=hC9.f2.f2.h2
    exact nS<|⟨v3,x2,Ab hr8,z,(Aj _ _),hC22⟩
   rintro _ w10 ⟨v7,x10,rfl,rfl,hB9,hC16⟩
   exact AL<|Ae z z<|AW z z z<|Af z z<|Aa<|nS<|⟨k1,Aw _,v7,x10,w64 (x3+1),z,(((((Ao hB3).then hB4).then hB5).then hB6).then hB9).below,hC16,hL1⟩
  refine Bi (A2 (A2 (AM ?_)))
  have hC24:=hC7.f1.h1
  exact nS<|⟨v3,x2,Ab hL1,z,((Ao hB3).then hB4).below,hC24⟩
 rintro _ w12 ⟨v4,x4,rfl,rfl,hB11,hC25⟩
 exact Ac<|Ae z z<|Af z z<|Aa<|AF<|rO hF z z hC25 0 z
theorem c_Q_sameInts {w0:World} (a1:Ta) (u1:Value) (g1:RO [] w0 u1 a1) (a2:Ta) (u2:Value) (g2:RO [] w0 u2 a2) (rr:Bool) (hF:Q.sameInts a1 a2=some rr) :
 Calls Tryz.prog 11 [u1,u2].toArray w0 fun e w'=>∃v,e=.returned v∧Res w0 rr v w':=by
 refine Av Tryz.func11 z z ?_
 have hC0:=A3 w0
 unfold Q.sameInts at hF
 refine Ac<|Af z z<|Aa<|A0<|Ac<|Ae z z<|AH Ag g1 z z<|Ae z z<|AH Ag g2 z z<|BQ z z z<|Aa<|wc hF z (fun hF=>?_) fun hF=>?_
 ·exact Ac<|Af z z<|Aa<|AF<|Ax<|rB hF z z hC0
 refine A5<|Am<|A0<|Ac<|Af z z<|Aa<|be hF fun r1 hr1 hF=>wN (fun l w=>.inl ()=r1∧l=[]∧Below w0.heap.size w0 w∧Ctx [] w0 w []) ?_ ?_
 ·refine A4<|wT<|Bj (fun k l w=>∃x1:Int,l=[(0,u1),(1,u2),(5,(I x1))]∧Below w0.heap.size w0 w∧Ctx [] w0 w []∧Q.sameInts_l1 a1 a2 k x1=some r1) FUEL ⟨0,z,(Aj _ _),hC0,hr1⟩<|?_
  clear hr1
  rintro k1 _ w1 ⟨x1,rfl,hB1,hC1,hL1⟩
  obtain _|k1:=k1<;>rw [Q.sameInts_l1] at hL1
  ·cases hL1
  refine A0<|Ac<|Ae z z<|Ae z z<|AH Ag g1 z z<|AZ z z z<|Aa<|wc hL1 z (fun hL1=>?_) fun hL1=>?_
  ·refine A5<|Am<|A0<|A4<|A0<|W_drawn 9 z hmix fun w2 hB2=>have hC2:=hC1.grow hB2;tm 0 z z z<|tm 1 z z z<|be hL1 fun x2 hx1 hL1=>tk 2 z z (B5 Ag ty3 g1 hx1 z z)<|A9 Ag ty3 g1 hx1 z z z fun b1 o1 h1=>Aa<|tm 4 z z z<|tm 5 z z z<|be hL1 fun x3 hx2 hL1=>tk 6 z z (B5 Ag ty3 g2 hx2 z z)<|A9 Ag ty3 g2 hx2 z z z fun b2 o2 h2=>Aa<|wAS (l':=[(0,u1),(1,u2),(5,(I x1)),(11,(I x1)),(12,u1),(13,(I (List.length a1:Int))),(14,(.bool (decide (x1 < (List.length a1:Int))))),(17,u1),(18,(I x1)),(19,(ptr b1 o1)),(21,u2),(22,(I x1)),(23,(ptr b2 o2))]) ⟨z,z,z,z,z,z,z,z,z,z,z,z,z,A6⟩<|Bg [⟨3,[],fun vs=>AQ (I x2),[]⟩,⟨7,[],fun vs=>AQ (I x3),[]⟩] [[],[]] 1 z (by kernel_rfl) (by kernel_rfl) z ?_ ?_
   ·refine An z ?_ ?_
    ·intro w3 hB3
     refine At<|⟨_,z,?_⟩
     refine AD ty3 h1 (hC2.keep.then hB3) z z (fun v1 h3=>?_)
     obtain rfl:=Bo h3
     exact Aa<|A1 (Aj _ _) z z ⟨z,z⟩
    refine An z ?_ ?_
    ·intro w3 hB3
     refine At<|⟨_,z,?_⟩
     refine AD ty3 h2 (hC2.keep.then hB3) z z (fun v2 h4=>?_)
     obtain rfl:=Bo h4
     exact Aa<|A1 (Aj _ _) z z ⟨z,z⟩
    exact AX
   intro w4 hB4
   refine Ap z z z ?_
   rintro _ _ ⟨rfl,rfl⟩
   refine Ap z z z ?_
   rintro _ _ ⟨rfl,rfl⟩
   refine Bm fun hn1 hb1=>have hC3:=hC2.grow hB4;tk 8 z z (CM z z)<|BQ z z z<|Aa<|dn<|Am<|wc hL1 z (fun hL1=>?_) fun hL1=>?_
   ·refine Ac<|Af z z<|Aa<|AF<|AT<|Ax<|Ax<|AT<|Ax<|Ax<|?_
    obtain rfl:=Ab hL1
    dsimp only at hF
    exact rB hF z z hC3
   exact A5<|AN<|Am<|AL<|Ae z z<|AW z z z<|Af z z<|Aa<|nS<|⟨k1,Aw _,w64 (x1+1),z,(((Ao hB1).then hB2).then hB4).below,hC3,hL1⟩
  refine Bi (A2 (A2 (AM ?_)))
  exact nS<|⟨Ab hL1,z,(Ao hB1).below,hC1⟩
 rintro _ w5 ⟨rfl,rfl,hB5,hC4⟩
 try dsimp only at hF
 exact Ac<|Af z z<|Aa<|AF<|rB hF z z hC4
theorem c_S_SameTuples {w0:World} (a1:Tj) (u1:Value) (g1:RO [] w0 u1 a1) (a2:Tj) (u2:Value) (g2:RO [] w0 u2 a2) (rr:Bool) (hF:S.SameTuples a1 a2=some rr) :
 Calls Tryz.prog 12 [u1,u2].toArray w0 fun e w'=>∃v,e=.returned v∧Res w0 rr v w':=by
 refine Av Tryz.func12 z z ?_
 have hC0:=A3 w0
 unfold S.SameTuples at hF
 refine Ac<|Af z z<|Aa<|A0<|Ac<|Ae z z<|AH AC g1 z z<|Ae z z<|AH AC g2 z z<|BQ z z z<|Aa<|wc hF z (fun hF=>?_) fun hF=>?_
 ·exact Ac<|Af z z<|Aa<|AF<|Ax<|rB hF z z hC0
 refine A5<|Am<|A0<|Ac<|Af z z<|Aa<|be hF fun r1 hr1 hF=>wN (fun l w=>.inl ()=r1∧l=[]∧Below w0.heap.size w0 w∧Ctx [] w0 w []) ?_ ?_
 ·refine A4<|wT<|Bj (fun k l w=>∃x1:Int,l=[(0,u1),(1,u2),(5,(I x1))]∧Below w0.heap.size w0 w∧Ctx [] w0 w []∧S.SameTuples_l1 a1 a2 k x1=some r1) FUEL ⟨0,z,(Aj _ _),hC0,hr1⟩<|?_
  clear hr1
  rintro k1 _ w1 ⟨x1,rfl,hB1,hC1,hL1⟩
  obtain _|k1:=k1<;>rw [S.SameTuples_l1] at hL1
  ·cases hL1
  refine A0<|Ac<|Ae z z<|Ae z z<|AH AC g1 z z<|AZ z z z<|Aa<|wc hL1 z (fun hL1=>?_) fun hL1=>?_
  ·refine A5<|Am<|A0<|A4<|A0<|W_drawn 10 z hmix fun w2 hB2=>have hC2:=hC1.grow hB2;tm 0 z z z<|tm 1 z z z<|be hL1 fun x2 hx1 hL1=>tk 2 z z (B5 AC ty24 g1 hx1 z z)<|A9 AC ty24 g1 hx1 z z z fun b1 o1 h1=>Aa<|tm 4 z z z<|tm 5 z z z<|be hL1 fun x3 hx2 hL1=>tk 6 z z (B5 AC ty24 g2 hx2 z z)<|A9 AC ty24 g2 hx2 z z z fun b2 o2 h2=>Aa<|wAS (l':=[(0,u1),(1,u2),(5,(I x1)),(11,(I x1)),(12,u1),(13,(I (List.length a1:Int))),(14,(.bool (decide (x1 < (List.length a1:Int))))),(17,u1),(18,(I x1)),(19,(ptr b1 o1)),(21,u2),(22,(I x1)),(23,(ptr b2 o2))]) ⟨z,z,z,z,z,z,z,z,z,z,z,z,z,A6⟩<|Bg [⟨3,[],fun vs=>Cj [] w0 x2,[]⟩,⟨7,[],fun vs=>Cj [] w0 x3,[]⟩] [[],[]] 2 z (by kernel_rfl) (by kernel_rfl) z ?_ ?_
   ·refine An z ?_ ?_
    ·intro w3 hB3
     refine At<|⟨_,z,?_⟩
     exact AD ty24 h1 (hC2.keep.then hB3) z z fun v1 h3=>Aa<|A1 (Aj _ _) z z ⟨z,h3⟩
    refine An z ?_ ?_
    ·intro w3 hB3
     refine At<|⟨_,z,?_⟩
     exact AD ty24 h2 (hC2.keep.then hB3) z z fun v2 h4=>Aa<|A1 (Aj _ _) z z ⟨z,h4⟩
    exact AX
   intro w4 hB4
   refine Ap z z z ?_
   rintro v1 _ ⟨rfl,h3⟩
   refine Ap z z z ?_
   rintro v2 _ ⟨rfl,h4⟩
   refine Bm fun hn1 hb1=>have hC3:=hC2.grow hB4;be hL1 fun x4 hr2 hL1=>oe 8 z<|cb Tryz.call51 z z (c_S_l2Ints x2 v1 (h3.now hC3.keep) x3 v2 (h4.now hC3.keep) x4 hr2) fun w5 hB5=>have hC4:=hC3.grow hB5;Aa<|tk 9 z z (Cw z)<|Bv z z<|Aa<|dn<|Am<|wc hL1 z (fun hL1=>?_) fun hL1=>?_
   ·refine Ac<|Af z z<|Aa<|AF<|AT<|Ax<|Ax<|AT<|Ax<|Ax<|?_
    obtain rfl:=Ab hL1
    dsimp only at hF
    exact rB hF z z hC4
   exact A5<|AN<|Am<|AL<|Ae z z<|AW z z z<|Af z z<|Aa<|nS<|⟨k1,Aw _,w64 (x1+1),z,((((Ao hB1).then hB2).then hB4).then hB5).below,hC4,hL1⟩
  refine Bi (A2 (A2 (AM ?_)))
  exact nS<|⟨Ab hL1,z,(Ao hB1).below,hC1⟩
 rintro _ w6 ⟨rfl,rfl,hB6,hC5⟩
 try dsimp only at hF
 exact Ac<|Af z z<|Aa<|AF<|rB hF z z hC5
theorem c_M_added_c1 {w0:World} (a1:Tb) (u1:Value) (g1:RO [] w0 u1 a1.2) (pb1:Nat) (ax1:Tb) (g2:ROAt [] w0 pb1 0 ax1) (rr:Bool) (hF:M.added_c1 a1 ax1=some rr) :
 Calls Tryz.prog 190 [(.agg #[(I a1.1),u1]),(ptr pb1 0)].toArray w0 fun e w'=>∃v,e=.returned v∧Res w0 rr v w':=by
 refine Av Tryz.func190 z z ?_
 have hC0:=A3 w0
 unfold M.added_c1 at hF
 refine Ac<|Be (cs:=[(I a1.1),u1]) hC0 z z z fun b1 w1 hC1 hB1 hN1=>Af z z<|Aa<|Ac<|Az [(I a1.1),u1] hC1 0 z z z Bw Bb z z<|AD ty77 g2 hC1.keep z z fun v1 h1=>?_
 obtain ⟨v2,rfl,h2⟩:=BE h1
 exact be hF fun x1 hr1 hF=>ci Tryz.call147 z z (c_M_CompareFacts (a1.1,a1.2) u1 (g1.now hC1.keep) ax1 v2 (h2.now hC1.keep) x1 hr1) fun w2 hB2=>have hC2:=hC1.grow hB2;Ck z z z<|Af z z<|Aa<|AF<|rB hF z z hC2
end Go.Gx.Px
