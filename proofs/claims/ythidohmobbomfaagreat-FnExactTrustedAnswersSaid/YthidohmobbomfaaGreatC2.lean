/- The contracts of the Go functions against the pure functions, printed by program. Conditions: each says them. -/
import Derived.Test.YthidohmobbomfaaGreatC1
set_option linter.unusedVariables false
set_option linter.unusedSimpArgs false
set_option maxRecDepth 100000
set_option maxHeartbeats 4000000
namespace Go.Gx.Px
open Go.Proofs Go.RowKit
open K9
theorem c_M_Disagree {w0:World} (a1:(List Int)) (u1:Value) (g1:RO [] w0 u1 a1) (a2:(List (Int × (List Int) × Int × Int × Int))) (u2:Value) (g2:RO [] w0 u2 a2) (a3:((Int × (List Int)) × (List (Int × (List Int))))) (u3:Value) (g3:RO [] w0 u3 a3.1.2) (u4:Value) (g4:RO [] w0 u4 a3.2) (a4:((Int × (List Int)) × (List (Int × (List Int))))) (u5:Value) (g5:RO [] w0 u5 a4.1.2) (u6:Value) (g6:RO [] w0 u6 a4.2) (rr:Bool) (hF:M.Disagree a1 a2 a3 a4=some rr) :
 Calls Tryz.prog 97 [u1,u2,(.agg #[(I a3.1.1),u3,u4]),(.agg #[(I a4.1.1),u5,u6])].toArray w0 fun e w'=>∃v,e=.returned v∧Res w0 rr v w':=by
 refine Aw Tryz.func97 z z ?_
 have hC0:=A1 w0
 unfold M.Disagree at hF
 refine Ac<|Bb (cs:=[u2]) hC0 (ro_cells g2) z z fun b1 w1 hC1 hB1 hN1=>Bb (cs:=[(I a3.1.1),u3,u4]) hC1 z z z fun b2 w2 hC2 hB2 hN2=>Bb (cs:=[(I a4.1.1),u5,u6]) hC2 z z z fun b3 w3 hC3 hB3 hN3=>Ae z z<|Ab<|be hF fun r1 hr1 hF=>BH (fun l w=>∃x1:Bool,x1=r1∧l=[(8,(.bool x1))]∧Below w3.heap.size w3 w∧Ctx [] w0 w []) ?_ ?_
 ·refine AX<|Af z z<|Al hC3 2 z z Da z z<|A4 [(I a3.1.1),u3,u4] hC3 1 z z z BF B3 z z<|be hr1 fun x2 hr2 hr1=>cb Tryz.call94 z z (c_M_FitsSelf a1 u1 (g1.now hC3.keep) a2 u2 (g2.now hC3.keep) ((a3.1.1,a3.1.2),a3.2) u3 (g3.now hC3.keep) u4 (g4.now hC3.keep) x2 hr2) fun w5 hB5=>have hC5:=hC3.grow hB5;Af z z<|Bz (fun hc1=>?_) (fun hc1=>?_)
  ·replace hr1:=A9 hr1 hc1
   refine Ak z z<|Af z z<|Ak z z<|Al hC5 2 z z Da z z<|Ak z z<|A4 [(I a4.1.1),u5,u6] hC5 0 z z z BF B3 z z<|be hr1 fun x3 hr3 hr1=>Ak z z<|cb Tryz.call94 z z (c_M_FitsSelf a1 u1 (g1.now hC5.keep) a2 u2 (g2.now hC5.keep) ((a4.1.1,a4.1.2),a4.2) u5 (g5.now hC5.keep) u6 (g6.now hC5.keep) x3 hr3) fun w6 hB6=>have hC6:=hC5.grow hB6;Ba z z z<|Af z z<|Bz (fun hc2=>?_) (fun hc2=>?_)
   ·replace hr1:=A9 hr1 hc2
    refine Ak z z<|fd AQ Bx z z z z<|Ak z z<|Al hC6 1 z z B9 z z<|Ak z z<|BS z z<|be hr1 fun x4 hr4 hr1=>Ak z z<|cb Tryz.call145 z z (c_Slices_ContainsFunc_Limpl_Fact_impl_Fact_M_Disagree_c1 a3.2 u4 (g4.now hC6.keep) b3 ((a4.1.1,a4.1.2),a4.2) (hC6.boxAt 0 z (repw_pair (repw_pair repw_int (repw_slice (g5.now hC6.keep))) (repw_slice (g6.now hC6.keep)))) b1 a2 (hC6.boxAt 2 z (repw_slice (g2.now hC6.keep))) x4 hr4) fun w7 hB7=>have hC7:=hC6.grow hB7;Ak z z<|Af z z<|Bz (fun hc3=>?_) (fun hc3=>?_)
    ·replace hr1:=A9 hr1 hc3
     refine gs z z z z<|gs z z z z<|gs z z z z<|gs z z z z<|Ak z z<|Ba z z z<|Ba z z z<|Ae z z<|Ab<|?_
     obtain rfl:=Aa hr1
     have hC8:=hC7.h0
     exact An (l':=[(8,(.bool true))]) ⟨z,Ah⟩<|⟨true,z,z,(((Ap hB5).then hB6).then hB7).below,hC8⟩
    replace hr1:=AA hr1 hc3
    refine Ak z z<|fd AQ Bx z z z z<|Ak z z<|Al hC7 0 z z B9 z z<|Ak z z<|BS z z<|be hr1 fun x5 hr5 hr1=>Ak z z<|cb Tryz.call145 z z (c_Slices_ContainsFunc_Limpl_Fact_impl_Fact_M_Disagree_c2 a4.2 u6 (g6.now hC7.keep) b2 ((a3.1.1,a3.1.2),a3.2) (hC7.boxAt 1 z (repw_pair (repw_pair repw_int (repw_slice (g3.now hC7.keep))) (repw_slice (g4.now hC7.keep)))) b1 a2 (hC7.boxAt 2 z (repw_slice (g2.now hC7.keep))) x5 hr5) fun w9 hB8=>have hC9:=hC7.grow hB8;Ak z z<|AY z z z<|Ba z z z<|Ae z z<|Ab<|?_
    obtain rfl:=Aa hr1
    have hC10:=hC9.h0
    exact An (l':=[(8,(.bool x5))]) ⟨z,Ah⟩<|⟨x5,z,z,((((Ap hB5).then hB6).then hB7).then hB8).below,hC10⟩
   replace hr1:=AA hr1 hc2
   refine gs z z z z<|gs z z z z<|gs z z z z<|gs z z z z<|gs z z z z<|gs z z z z<|gs z z z z<|gs z z z z<|gs z z z z<|gs z z z z<|AY z z z<|Ae z z<|Ab<|?_
   obtain rfl:=Aa hr1
   have hC11:=hC6.h0
   exact An (l':=[(8,(.bool false))]) ⟨z,Ah⟩<|⟨false,z,z,((Ap hB5).then hB6).below,hC11⟩
  replace hr1:=AA hr1 hc1
  refine gs z z z z<|gs z z z z<|gs z z z z<|gs z z z z<|AY z z z<|Af z z<|gs z z z z<|gs z z z z<|gs z z z z<|gs z z z z<|gs z z z z<|gs z z z z<|gs z z z z<|gs z z z z<|gs z z z z<|gs z z z z<|AY z z z<|Ae z z<|Ab<|?_
  obtain rfl:=Aa hr1
  have hC12:=hC5.h0
  exact An (l':=[(8,(.bool false))]) ⟨z,Ah⟩<|⟨false,z,z,(Ap hB5).below,hC12⟩
 rintro _ w4 ⟨x1,rfl,rfl,hB4,hC4⟩
 try dsimp only at hF
 refine AC ?_
 obtain rfl:=Aa hF
 exact Ay z z<|⟨_,z,AD hC4 _⟩
theorem c_M_FirstConflict_c1 {w0:World} (a1:((Int × (List Int)) × (List (Int × (List Int))))) (u1:Value) (g1:RO [] w0 u1 a1.1.2) (u2:Value) (g2:RO [] w0 u2 a1.2) (pb1:Nat) (ax1:(List Int)) (g3:ROAt [] w0 pb1 0 ax1) (pb2:Nat) (ax2:(List (Int × (List Int) × Int × Int × Int))) (g4:ROAt [] w0 pb2 0 ax2) (pb3:Nat) (ax3:((Int × (List Int)) × (List (Int × (List Int))))) (g5:ROAt [] w0 pb3 0 ax3) (rr:Bool) (hF:M.FirstConflict_c1 a1 ax1 ax2 ax3=some rr) :
 Calls Tryz.prog 96 [(.agg #[(I a1.1.1),u1,u2]),(ptr pb1 0),(ptr pb2 0),(ptr pb3 0)].toArray w0 fun e w'=>∃v,e=.returned v∧Res w0 rr v w':=by
 refine Aw Tryz.func96 z z ?_
 have hC0:=A1 w0
 unfold M.FirstConflict_c1 at hF
 refine Ac<|Bb (cs:=[(I a1.1.1),u1,u2]) hC0 z z z fun b1 w1 hC1 hB1 hN1=>Ae z z<|Ab<|Ac<|AH ty24 g3 hC1.keep z z fun v1 h1=>AH ty25 g4 hC1.keep z z fun v2 h2=>A4 [(I a1.1.1),u1,u2] hC1 0 z z z BF B3 z z<|AH ty84 g5 hC1.keep z z fun v3 h3=>?_
 obtain ⟨v4,v5,rfl,h4,h5⟩:=C0 h3
 refine be hF fun x1 hr1 hF=>cb Tryz.call97 z z (c_M_Disagree ax1 v1 (h1.now hC1.keep) ax2 v2 (h2.now hC1.keep) ((a1.1.1,a1.1.2),a1.2) u1 (g1.now hC1.keep) u2 (g2.now hC1.keep) ax3 v4 (h4.now hC1.keep) v5 (h5.now hC1.keep) x1 hr1) fun w2 hB2=>have hC2:=hC1.grow hB2;Ae z z<|Ab<|AC<|?_
 obtain rfl:=Aa hF
 exact Ay z z<|⟨_,z,AD hC2 _⟩
theorem c_Slices_IndexFunc_Limpl_Told_impl_Told_M_FirstConflict_c1 {w0:World} (a1:(List ((Int × (List Int)) × (List (Int × (List Int)))))) (u1:Value) (g1:RO [] w0 u1 a1) (pb1:Nat) (ax1:(List Int)) (g2:ROAt [] w0 pb1 0 ax1) (pb2:Nat) (ax2:(List (Int × (List Int) × Int × Int × Int))) (g3:ROAt [] w0 pb2 0 ax2) (pb3:Nat) (ax3:((Int × (List Int)) × (List (Int × (List Int))))) (g4:ROAt [] w0 pb3 0 ax3) (rr:Int) (hF:Slices.IndexFunc_Limpl_Told_impl_Told_M_FirstConflict_c1 a1 ax1 ax2 ax3=some rr) :
 Calls Tryz.prog 95 [u1,(.func (.func 96) #[] #[(ptr pb1 0),(ptr pb2 0),(ptr pb3 0)])].toArray w0 fun e w'=>∃v,e=.returned v∧Res w0 rr v w':=by
 refine Aw Tryz.func95 z z ?_
 have hC0:=A1 w0
 unfold Slices.IndexFunc_Limpl_Told_impl_Told_M_FirstConflict_c1 at hF
 refine Ac<|Ae z z<|Ab<|A0<|Ac<|Af z z<|AL AR g1 z z<|Af z z<|Ab<|be hF fun r1 hr1 hF=>Bf (fun l w=>.inl ()=r1∧l=[]∧Below w0.heap.size w0 w∧Ctx [] w0 w []) ?_ ?_
 ·refine AB<|wS (l':=[(0,u1),(1,(.func (.func 96) #[] #[(ptr pb1 0),(ptr pb2 0),(ptr pb3 0)])),(7,(I (List.length a1:Int))),(8,(I 0))]) ⟨z,z,z,z,Ah⟩<|Bo (fun k l w=>∃x1:Int,l=[(0,u1),(1,(.func (.func 96) #[] #[(ptr pb1 0),(ptr pb2 0),(ptr pb3 0)])),(7,(I (List.length a1:Int))),(8,(I x1))]∧Below w0.heap.size w0 w∧Ctx [] w0 w []∧Slices.IndexFunc_Limpl_Told_impl_Told_M_FirstConflict_c1_l1 a1 ax1 ax2 ax3 k x1=some r1) FUEL ⟨0,z,(Am _ _),hC0,hr1⟩<|?_
  clear hr1
  rintro k1 _ w1 ⟨x1,rfl,hB1,hC1,hL1⟩
  cases k1 with
  | zero=>rw [Slices.IndexFunc_Limpl_Told_impl_Told_M_FirstConflict_c1_l1] at hL1; cases hL1
  | succ k1 =>
   rw [Slices.IndexFunc_Limpl_Told_impl_Told_M_FirstConflict_c1_l1] at hL1
   refine Ac<|AW z z z<|Ab<|A0<|A7 z (fun hc1=>?_) (fun hc1=>?_)
   ·replace hL1:=A9 hL1 hc1
    refine A6<|Aj<|A0<|AB<|Ac<|Af z z<|Ae z z<|Ab<|Ac<|Af z z<|Af z z<|Af z z<|be hL1 fun x2 hx1 hL1=>AE AR ty84 g1 hx1 z z z fun b1 o1 h1=>AH ty84 h1 hC1.keep z z fun v1 h2=>?_
    obtain ⟨v2,v3,rfl,h3,h4⟩:=C0 h2
    refine be hL1 fun x3 hr2 hL1=>BQ (cap:=[(ptr pb1 0),(ptr pb2 0),(ptr pb3 0)]) Tryz.call96 z z z (c_M_FirstConflict_c1 x2 v2 (h3.now hC1.keep) v3 (h4.now hC1.keep) pb1 ax1 (g2.now hC1.keep) pb2 ax2 (g3.now hC1.keep) pb3 ax3 (g4.now hC1.keep) x3 hr2) fun _ w2 hv1=>?_
    obtain ⟨rfl,hB2⟩:=BR hv1
    have hC2:=hC1.grow hB2
    refine Ab<|A7 z (fun hc2=>?_) (fun hc2=>?_)
    ·replace hL1:=A9 hL1 hc2
     refine Ac<|Af z z<|Ae z z<|Ab<|AC<|AU<|Ar<|Ar<|AU<|Ar<|Ar<|?_
     obtain rfl:=Aa hL1
     dsimp only at hF
     obtain rfl:=Aa hF
     exact Ay z z<|⟨_,z,Bk hC2 _⟩
    replace hL1:=AA hL1 hc2
    exact A6<|AJ<|Aj<|AX<|Be z z z<|Af z z<|Ab<|An (l':=[(0,u1),(1,(.func (.func 96) #[] #[(ptr pb1 0),(ptr pb2 0),(ptr pb3 0)])),(7,(I (List.length a1:Int))),(8,(I (w64 (x1+1))))]) ⟨z,z,z,z,Ah⟩<|⟨k1,Az _,w64 (x1+1),z,((Ap hB1).then hB2).below,hC2,hL1⟩
   replace hL1:=AA hL1 hc1
   refine Bm (A2 (A2 (AT ?_)))
   obtain rfl:=Aa hL1
   exact An (l':=[]) Ah<|⟨z,z,(Ap hB1).below,hC1⟩
 rintro l2 _ w3 hs2 ⟨rfl,rfl,hB3,hC3⟩
 try dsimp only at hF
 refine AO hs2 ?_
 clear hs2
 refine Ac<|Ae z z<|Ab<|AC<|?_
 obtain rfl:=Aa hF
 exact Ay z z<|⟨_,z,Bk hC3 _⟩
theorem c_M_FirstConflict {w0:World} (a1:(List Int)) (u1:Value) (g1:RO [] w0 u1 a1) (a2:(List (Int × (List Int) × Int × Int × Int))) (u2:Value) (g2:RO [] w0 u2 a2) (a3:(List ((Int × (List Int)) × (List (Int × (List Int)))))) (u3:Value) (g3:RO [] w0 u3 a3) (rr:(Int × Int × Bool)) (hF:M.FirstConflict a1 a2 a3=some rr) :
 Calls Tryz.prog 55 [u1,u2,u3].toArray w0 fun e w'=>∃v,e=.returned v∧Res3 w0 rr.1 rr.2.1 rr.2.2 v w':=by
 refine Aw Tryz.func55 z z ?_
 have hC0:=A1 w0
 unfold M.FirstConflict at hF
 refine Ac<|Bb (cs:=[u1]) hC0 (ro_cells g1) z z fun b1 w1 hC1 hB1 hN1=>Bb (cs:=[u2]) hC1 (ro_cells g2) z z fun b2 w2 hC2 hB2 hN2=>Ae z z<|Ae z z<|Ae z z<|Ab<|A0<|Ac<|Af z z<|AL AR g3 z z<|Af z z<|Ab<|be hF fun r1 hr1 hF=>Bf (fun l w=>.inl ()=r1∧l=[]∧Ctx [] w0 w []) ?_ ?_
 ·refine AB<|wS (l':=[(2,u3),(3,(ptr b1 0)),(4,(ptr b2 0)),(12,u3),(13,(I (List.length a3:Int))),(14,(I 0))]) ⟨z,z,z,z,z,z,Ah⟩<|Bo (fun k l w=>∃x1:Int,l=[(2,u3),(3,(ptr b1 0)),(4,(ptr b2 0)),(12,u3),(13,(I (List.length a3:Int))),(14,(I x1))]∧Ctx [] w0 w [Ai b2 [u2],Ai b1 [u1]]∧M.FirstConflict_l1 a3 a1 a2 k x1=some r1) FUEL ⟨0,z,hC2,hr1⟩<|?_
  clear hr1
  rintro k1 _ w3 ⟨x1,rfl,hC3,hL1⟩
  cases k1 with
  | zero=>rw [M.FirstConflict_l1] at hL1; cases hL1
  | succ k1 =>
   rw [M.FirstConflict_l1] at hL1
   refine Ac<|AW z z z<|Ab<|A0<|A7 z (fun hc1=>?_) (fun hc1=>?_)
   ·replace hL1:=A9 hL1 hc1
    refine A6<|Aj<|A0<|AB<|Ac<|Af z z<|be hL1 fun x2 hx1 hL1=>AE AR ty84 g3 hx1 z z z fun b3 o1 h1=>AH ty84 h1 hC3.keep z z fun v1 h2=>?_
    obtain ⟨v2,v3,rfl,h3,h4⟩:=C0 h2
    refine B0 hC3 zero84 z z fun b4 w4 hC4 hB4 hN3=>Ae z z<|AS (cs':=[(I x2.1.1),v2,v3]) (new:=[(I x2.1.1),v2,v3]) hC4 0 z z (fac z<|fac (B1 h3)<|fac (B1 h4)<|fa0) z B3 z z fun w5 hC5 hKp1=>?_
    try dsimp only [List.set] at hC5
    have hk1:=AI (Ap hB4) hN3 hKp1
    refine Ab<|A0<|Ac<|Al hC5 2 z z At z z<|Al hC5 1 z z Da z z<|A4 [(I x2.1.1),v2,v3] hC5 0 z z z BF B3 z z<|be hL1 fun x3 hr2 hL1=>cb Tryz.call94 z z (c_M_FitsSelf a1 u1 (g1.now hC5.keep) a2 u2 (g2.now hC5.keep) ((x2.1.1,x2.1.2),x2.2) v2 (h3.now hC5.keep) v3 (h4.now hC5.keep) x3 hr2) fun w6 hB5=>have hC6:=hC5.grow hB5;Bw z z<|Ab<|A7 z (fun hc2=>?_) (fun hc2=>?_)
    ·replace hL1:=A9 hL1 hc2
     refine Ac<|Af z z<|Af z z<|Ae z z<|Ae z z<|Ae z z<|Ab<|AC<|Ar<|AU<|Ar<|Ar<|AU<|Ar<|Ar<|?_
     obtain rfl:=Aa hL1
     dsimp only at hF
     obtain rfl:=Aa hF
     refine Db z z z z ?_
     have hC7:=hC6.triv (BU (true))
     have hC8:=hC7.triv (B2 (x1))
     have hC9:=hC8.triv (B2 (x1))
     exact ⟨_,z,res3_of hC9⟩
    replace hL1:=AA hL1 hc2
    refine A6<|Aj<|Ac<|Af z z<|Af z z<|be hL1 fun x4 hx2 hL1=>WL_slice_h AR ty84 g3 hx2 z z z fun v4 h5=>BS z z<|be hL1 fun x5 hr3 hL1=>ci Tryz.call95 z z (c_Slices_IndexFunc_Limpl_Told_impl_Told_M_FirstConflict_c1 x4 v4 (h5.now hC6.keep) b1 a1 (hC6.boxAt 2 z (repw_slice (g1.now hC6.keep))) b2 a2 (hC6.boxAt 1 z (repw_slice (g2.now hC6.keep))) b4 ((x2.1.1,x2.1.2),x2.2) (hC6.boxAt 0 z (repw_pair (repw_pair repw_int (repw_slice (h3.now hC6.keep))) (repw_slice (h4.now hC6.keep)))) x5 hr3) fun w7 hB6=>have hC10:=hC6.grow hB6;Ae z z<|Ab<|Ac<|Af z z<|Cu z z z<|Ab<|A7 z (fun hc3=>?_) (fun hc3=>?_)
    ·replace hL1:=A9 hL1 hc3
     refine Ac<|Af z z<|Af z z<|Ae z z<|Ae z z<|Ae z z<|Ab<|AC<|AU<|Ar<|Ar<|AU<|Ar<|Ar<|?_
     obtain rfl:=Aa hL1
     dsimp only at hF
     obtain rfl:=Aa hF
     refine Db z z z z ?_
     have hC11:=hC10.triv (BU (true))
     have hC12:=hC11.triv (B2 (x1))
     have hC13:=hC12.triv (B2 (x5))
     exact ⟨_,z,res3_of hC13⟩
    replace hL1:=AA hL1 hc3
    exact A6<|AJ<|Aj<|AX<|Be z z z<|Af z z<|Ab<|have hC14:=hC10.f2;have hC15:=hC14.f2;have hC16:=hC15.h2;An (l':=[(2,u3),(3,(ptr b1 0)),(4,(ptr b2 0)),(12,u3),(13,(I (List.length a3:Int))),(14,(I (w64 (x1+1))))]) ⟨z,z,z,z,z,z,Ah⟩<|⟨k1,Az _,w64 (x1+1),z,hC16,hL1⟩
   replace hL1:=AA hL1 hc1
   refine Bm (A2 (A2 (AT ?_)))
   obtain rfl:=Aa hL1
   have hC17:=hC3.h0
   exact An (l':=[]) Ah<|⟨z,z,hC17⟩
 rintro l2 _ w9 hs2 ⟨rfl,rfl,hC18⟩
 try dsimp only at hF
 refine AO hs2 ?_
 clear hs2
 refine Ac<|Ae z z<|Ae z z<|Ae z z<|Ab<|AC<|?_
 obtain rfl:=Aa hF
 refine Db z z z z ?_
 have hC19:=hC18.triv (BU (false))
 have hC20:=hC19.triv (B2 ((-1)))
 have hC21:=hC20.triv (B2 ((-1)))
 exact ⟨_,z,res3_of hC21⟩
theorem c_M_IsConsistent {w0:World} (a1:(List Int)) (u1:Value) (g1:RO [] w0 u1 a1) (a2:(List (Int × (List Int) × Int × Int × Int))) (u2:Value) (g2:RO [] w0 u2 a2) (a3:(List ((Int × (List Int)) × (List (Int × (List Int)))))) (u3:Value) (g3:RO [] w0 u3 a3) (rr:Bool) (hF:M.IsConsistent a1 a2 a3=some rr) :
 Calls Tryz.prog 18 [u1,u2,u3].toArray w0 fun e w'=>∃v,e=.returned v∧Res w0 rr v w':=by
 refine Aw Tryz.func18 z z ?_
 have hC0:=A1 w0
 unfold M.IsConsistent at hF
 refine Ac<|Ae z z<|Ab<|Ac<|Af z z<|Af z z<|Af z z<|be hF fun x1 hr1 hF=>Bc Tryz.call55 z z (c_M_FirstConflict a1 u1 (g1.now hC0.keep) a2 u2 (g2.now hC0.keep) a3 u3 (g3.now hC0.keep) x1 hr1)<|?_
 rintro _ w1 ⟨hB1,v1,v2,v3,F1,F2,F3,rfl,hv1,hv2,hv3,hn1,hb1⟩
 obtain ⟨rfl,rfl⟩:=val_int hv1
 obtain ⟨rfl,rfl⟩:=val_int hv2
 obtain ⟨rfl,rfl⟩:=val_bool hv3
 have hC1:=hC0.grow hB1
 refine Af z z<|BJ z z z<|BJ z z z<|BJ z z z<|Ae z z<|Ae z z<|Ae z z<|Ab<|be hF fun r1 hr2 hF=>BH (fun l w=>∃x2:Bool,x2=r1∧l=[(6,(.bool x2))]∧Below w1.heap.size w1 w∧Ctx [] w0 w []) ?_ ?_
 ·refine AX<|Af z z<|Af z z<|be hr2 fun x3 hr3 hr2=>cb Tryz.call56 z z (c_M_AreMethods a1 u1 (g1.now hC1.keep) a2 u2 (g2.now hC1.keep) x3 hr3) fun w3 hB3=>have hC3:=hC1.grow hB3;Af z z<|Bz (fun hc1=>?_) (fun hc1=>?_)
  ·replace hr2:=A9 hr2 hc1
   refine Ak z z<|Af z z<|Ak z z<|Bw z z<|Ba z z z<|Ae z z<|Ab<|?_
   obtain rfl:=Aa hr2
   exact An (l':=[(6,(.bool (!x1.2.2)))]) ⟨z,Ah⟩<|⟨(!x1.2.2),z,z,(Ap hB3).below,hC3⟩
  replace hr2:=AA hr2 hc1
  refine gs z z z z<|gs z z z z<|AY z z z<|Ae z z<|Ab<|?_
  obtain rfl:=Aa hr2
  exact An (l':=[(6,(.bool false))]) ⟨z,Ah⟩<|⟨false,z,z,(Ap hB3).below,hC3⟩
 rintro _ w2 ⟨x2,rfl,rfl,hB2,hC2⟩
 try dsimp only at hF
 refine AC ?_
 obtain rfl:=Aa hF
 exact Ay z z<|⟨_,z,AD hC2 _⟩
theorem c_Slices_Index_Lint_int {w0:World} (a1:(List Int)) (u1:Value) (g1:RO [] w0 u1 a1) (a2:Int) (rr:Int) (hF:Slices.Index_Lint_int a1 a2=some rr) :
 Calls Tryz.prog 102 [u1,(I a2)].toArray w0 fun e w'=>∃v,e=.returned v∧Res w0 rr v w':=by
 refine Aw Tryz.func102 z z ?_
 have hC0:=A1 w0
 unfold Slices.Index_Lint_int at hF
 refine Ac<|Ae z z<|Ab<|A0<|Ac<|Af z z<|AL Ag g1 z z<|Af z z<|Ab<|be hF fun r1 hr1 hF=>Bf (fun l w=>.inl ()=r1∧l=[]∧Below w0.heap.size w0 w∧Ctx [] w0 w []) ?_ ?_
 ·refine AB<|wS (l':=[(0,u1),(1,(I a2)),(7,(I (List.length a1:Int))),(8,(I 0))]) ⟨z,z,z,z,Ah⟩<|Bo (fun k l w=>∃x1:Int,l=[(0,u1),(1,(I a2)),(7,(I (List.length a1:Int))),(8,(I x1))]∧Below w0.heap.size w0 w∧Ctx [] w0 w []∧Slices.Index_Lint_int_l1 a1 a2 k x1=some r1) FUEL ⟨0,z,(Am _ _),hC0,hr1⟩<|?_
  clear hr1
  rintro k1 _ w1 ⟨x1,rfl,hB1,hC1,hL1⟩
  cases k1 with
  | zero=>rw [Slices.Index_Lint_int_l1] at hL1; cases hL1
  | succ k1 =>
   rw [Slices.Index_Lint_int_l1] at hL1
   refine Ac<|AW z z z<|Ab<|A0<|A7 z (fun hc1=>?_) (fun hc1=>?_)
   ·replace hL1:=A9 hL1 hc1
    refine A6<|Aj<|A0<|AB<|Ac<|Af z z<|Ae z z<|Ab<|Ac<|Af z z<|Af z z<|Af z z<|be hL1 fun x2 hx1 hL1=>AE Ag ty3 g1 hx1 z z z fun b1 o1 h1=>AH ty3 h1 hC1.keep z z fun v1 h2=>?_
    obtain rfl:=By h2
    refine Ca z z z<|Ab<|A7 z (fun hc2=>?_) (fun hc2=>?_)
    ·replace hL1:=A9 hL1 hc2
     refine Ac<|Af z z<|Ae z z<|Ab<|AC<|AU<|Ar<|Ar<|AU<|Ar<|Ar<|?_
     obtain rfl:=Aa hL1
     dsimp only at hF
     obtain rfl:=Aa hF
     exact Ay z z<|⟨_,z,Bk hC1 _⟩
    replace hL1:=AA hL1 hc2
    exact A6<|AJ<|Aj<|AX<|Be z z z<|Af z z<|Ab<|An (l':=[(0,u1),(1,(I a2)),(7,(I (List.length a1:Int))),(8,(I (w64 (x1+1))))]) ⟨z,z,z,z,Ah⟩<|⟨k1,Az _,w64 (x1+1),z,(Ap hB1).below,hC1,hL1⟩
   replace hL1:=AA hL1 hc1
   refine Bm (A2 (A2 (AT ?_)))
   obtain rfl:=Aa hL1
   exact An (l':=[]) Ah<|⟨z,z,(Ap hB1).below,hC1⟩
 rintro l2 _ w2 hs2 ⟨rfl,rfl,hB2,hC2⟩
 try dsimp only at hF
 refine AO hs2 ?_
 clear hs2
 refine Ac<|Ae z z<|Ab<|AC<|?_
 obtain rfl:=Aa hF
 exact Ay z z<|⟨_,z,Bk hC2 _⟩
theorem c_Slices_Contains_Lint_int {w0:World} (a1:(List Int)) (u1:Value) (g1:RO [] w0 u1 a1) (a2:Int) (rr:Bool) (hF:Slices.Contains_Lint_int a1 a2=some rr) :
 Calls Tryz.prog 57 [u1,(I a2)].toArray w0 fun e w'=>∃v,e=.returned v∧Res w0 rr v w':=by
 refine Aw Tryz.func57 z z ?_
 have hC0:=A1 w0
 unfold Slices.Contains_Lint_int at hF
 refine Ac<|Ae z z<|Ab<|Ac<|Af z z<|Af z z<|be hF fun x1 hr1 hF=>ci Tryz.call102 z z (c_Slices_Index_Lint_int a1 u1 (g1.now hC0.keep) a2 x1 hr1) fun w1 hB1=>have hC1:=hC0.grow hB1;Cu z z z<|Ae z z<|Ab<|AC<|?_
 obtain rfl:=Aa hF
 exact Ay z z<|⟨_,z,AD hC1 _⟩
theorem c_M_copyAccess {w0:World} (a1:(Int × (List Int))) (u1:Value) (g1:RO [] w0 u1 a1.2) (rr:(Int × (List Int))) (hF:M.copyAccess a1=some rr) :
 Calls Tryz.prog 103 [(.agg #[(I a1.1),u1])].toArray w0 fun e w'=>∃v,e=.returned v∧Res w0 rr v w':=by
 refine Aw Tryz.func103 z z ?_
 have hC0:=A1 w0
 unfold M.copyAccess at hF
 refine Ac<|Bb (cs:=[(I a1.1),u1]) hC0 z z z fun b1 w1 hC1 hB1 hN1=>B0 hC1 zero82 z z fun b2 w2 hC2 hB2 hN2=>Ab<|A0<|W_drawn 7 z hmix fun w3 hB3=>have hC3:=hC2.grow hB3;tf 0 Bd A5 z z z z z<|tf 2 Bd Au z z z z z<|be hF fun x1 hr1 hF=>wAS (l':=[(0,(.agg #[(I a1.1),u1])),(1,(ptr b1 0)),(2,(ptr b2 0)),(3,(ptr b1 0)),(5,(ptr b1 1))]) ⟨z,z,z,z,z,Ah⟩<|Bq [⟨1,[],fun vs=>Bg (I a1.1),[]⟩,⟨3,[],fun vs=>Bg u1,[]⟩,⟨4,[],fun vs=>BX x1,[]⟩] [[],[],[3]] 2 z (by kernel_rfl) (by kernel_rfl) z ?_ ?_
 ·refine Aq z ?_ ?_
  ·intro w5 hB5
   refine Ax<|⟨_,z,?_⟩
   exact Al (hC3.grow hB5) 1 z z AV z z<|Ab<|A3 (Am _ _) z z ⟨z,z⟩
  refine Aq z ?_ ?_
  ·intro w5 hB5
   refine Ax<|⟨_,z,?_⟩
   exact Al (hC3.grow hB5) 1 z z At z z<|Ab<|A3 (Am _ _) z z ⟨z,z⟩
  refine Aq z ?_ ?_
  ·intro w5 hB5
   refine AN z z z ?_
   rintro _ _ ⟨rfl,rfl⟩ _
   refine Ax<|⟨_,z,?_⟩
   refine Bc CJ z z (c_Slices_Clone_Lint_int a1.2 u1 (g1.now (hC3.keep.then hB5)) x1 hr1) ?_
   rintro v1 w4 ⟨hB4,F1,hv1,hn1,hb1⟩
   exact Ab<|BW hB4 z z hv1 hn1 hb1 (Val.inh hv1)
  exact Bl
 intro w6 hB6
 refine Av z z z ?_
 rintro _ _ ⟨rfl,rfl⟩
 refine Av z z z ?_
 rintro _ _ ⟨rfl,rfl⟩
 refine Av z z z fun v1 F1 hv1=>Bv fun hn2 hb2=>?_
 have hC4:=hC3.pushL hB6 (Bs:=[Ad v1 (x1:(List Int))]) (Fs:=[F1]) ⟨F1,_,z,hv1,z⟩ (by simpa using hn2) (fun b h=>(hb2 b (by simpa using h)).1)
 refine tk 5 z z (CY (vs:=[(0,(I a1.1)),(1,v1)]) z z (built82_0_1 z (ro_cells (hC4.ro 0 z))))<|Ck (vs:=[(0,(I a1.1)),(1,v1)]) z z z (built82_0_1 z (ro_cells (hC4.ro 0 z)))<|Ab<|oe 6 z<|AS (cs':=[(I a1.1),v1]) (new:=[(I a1.1),v1]) hC4 1 z z (fac z<|fac (B1 (hC4.ro 0 z))<|fa0) z Bu z z fun w7 hC5 hKp1=>?_
 try dsimp only [List.set] at hC5
 have hk1:=AI ((((Ap hB1).then hB2).then hB3).then hB6) (AM (Ap hB1).size hN2) hKp1
 have hk2:=AI (((Ap hB2).then hB3).then hB6) hN2 hKp1
 refine Ab<|dn<|Aj<|AC<|?_
 obtain rfl:=Aa hF
 refine Cl z (rv_cell_agg (cs':=[(I a1.1),v1]) hC5 (i:=1) z z z BZ Bu z) ?_
 have hC6:=own_st82 a1.1 v1 x1 hC5
 exact ⟨_,z,B7 hC6 0 z⟩
theorem c_M_copyTold {w0:World} (a1:((Int × (List Int)) × (List (Int × (List Int))))) (u1:Value) (g1:RO [] w0 u1 a1.1.2) (u2:Value) (g2:RO [] w0 u2 a1.2) (rr:((Int × (List Int)) × (List (Int × (List Int))))) (hF:M.copyTold a1=some rr) :
 Calls Tryz.prog 58 [(.agg #[(I a1.1.1),u1,u2])].toArray w0 fun e w'=>∃v,e=.returned v∧Res w0 rr v w':=by
 refine Aw Tryz.func58 z z ?_
 have hC0:=A1 w0
 unfold M.copyTold at hF
 refine Ac<|Bb (cs:=[(I a1.1.1),u1,u2]) hC0 z z z fun b1 w1 hC1 hB1 hN1=>B0 hC1 zero84 z z fun b2 w2 hC2 hB2 hN2=>Ab<|A0<|W_drawn 8 z hmix fun w3 hB3=>have hC3:=hC2.grow hB3;tf 0 AQ Bu z z z z z<|tf 3 AQ Bx z z z z z<|be hF fun x1 hr1 hF=>wAS (l':=[(0,(.agg #[(I a1.1.1),u1,u2])),(1,(ptr b1 0)),(2,(ptr b2 0)),(3,(ptr b1 0)),(6,(ptr b1 2))]) ⟨z,z,z,z,z,Ah⟩<|Bq [⟨1,[],fun vs=>Bg (.agg #[(I a1.1.1),u1]),[]⟩,⟨2,[],fun vs=>BX x1,[]⟩,⟨4,[],fun vs=>Bg u2,[]⟩] [[],[1],[]] 3 z (by kernel_rfl) (by kernel_rfl) z ?_ ?_
 ·refine Aq z ?_ ?_
  ·intro w5 hB5
   refine Ax<|⟨_,z,?_⟩
   exact A4 [(I a1.1.1),u1] (hC3.grow hB5) 1 z z z BZ Bu z z<|Ab<|A3 (Am _ _) z z ⟨z,z⟩
  refine Aq z ?_ ?_
  ·intro w5 hB5
   refine AN z z z ?_
   rintro _ _ ⟨rfl,rfl⟩ _
   refine Ax<|⟨_,z,?_⟩
   refine Bc Tryz.call103 z z (c_M_copyAccess (a1.1.1,a1.1.2) u1 (g1.now (hC3.keep.then hB5)) x1 hr1) ?_
   rintro v1 w4 ⟨hB4,F1,hv1,hn1,hb1⟩
   exact Ab<|BW hB4 z z hv1 hn1 hb1 (Val.inh hv1)
  refine Aq z ?_ ?_
  ·intro w5 hB5
   refine Ax<|⟨_,z,?_⟩
   exact Al (hC3.grow hB5) 1 z z B9 z z<|Ab<|A3 (Am _ _) z z ⟨z,z⟩
  exact Bl
 intro w6 hB6
 refine Av z z z ?_
 rintro _ _ ⟨rfl,rfl⟩
 refine Av z z z fun v1 F1 hv1=>Av z z z<|?_
 rintro _ _ ⟨rfl,rfl⟩
 refine Bv ?_
 intro hn2 hb2
 have hC4:=hC3.pushL hB6 (Bs:=[Ad v1 (x1:(Int × (List Int)))]) (Fs:=[F1]) ⟨F1,_,z,hv1,z⟩ (by simpa using hn2) (fun b h=>(hb2 b (by simpa using h)).1)
 obtain ⟨v3,rfl,hC5⟩:=st82_own hC4
 refine be hF fun x2 hr2 hF=>oe 5 z<|Bc Tryz.call104 z z (c_M_copyFacts a1.2 u2 (g2.now hC5.keep) x2 hr2)<|?_
 rintro v4 w7 ⟨hB7,F2,hv2,hn3,hb3⟩
 have hC6:=hC5.push hB7 (A:=Ad v4 x2) hv2 hn3 hb3
 refine Ab<|tk 6 z z (CY (vs:=[(0,(.agg #[(I x1.1),v3])),(1,v4)]) z z (built84_0_1 z (ro_cells (hC6.ro 0 z))))<|Ck (vs:=[(0,(.agg #[(I x1.1),v3])),(1,v4)]) z z z (built84_0_1 z (ro_cells (hC6.ro 0 z)))<|Ab<|oe 7 z<|AS (cs':=[(I x1.1),v3,v4]) (new:=[(I x1.1),v3,v4]) hC6 2 z z (fac z<|fac (B1 (hC6.ro 1 z))<|fac (B1 (hC6.ro 0 z))<|fa0) z B3 z z fun w9 hC7 hKp1=>?_
 try dsimp only [List.set] at hC7
 have hk1:=AI (((((Ap hB1).then hB2).then hB3).then hB6).then hB7) (AM (Ap hB1).size hN2) hKp1
 have hk2:=AI ((((Ap hB2).then hB3).then hB6).then hB7) hN2 hKp1
 refine Ab<|dn<|Aj<|AC<|?_
 obtain rfl:=Aa hF
 refine Cl z (rv_cell_agg (cs':=[(I x1.1),v3,v4]) hC7 (i:=2) z z z BF B3 z)<|have hC10:=hC7.f1;?_
 have hC8:=CC x1.1 v3 x1.2 v4 x2 hC10
 exact ⟨_,z,B7 hC8 0 z⟩
theorem c_M_Without {w0:World} (a1:(List ((Int × (List Int)) × (List (Int × (List Int)))))) (u1:Value) (g1:RO [] w0 u1 a1) (a2:(List Int)) (u2:Value) (g2:RO [] w0 u2 a2) (rr:(List ((Int × (List Int)) × (List (Int × (List Int)))))) (hF:M.Without a1 a2=some rr) :
 Calls Tryz.prog 19 [u1,u2].toArray w0 fun e w'=>∃v,e=.returned v∧Res w0 rr v w':=by
 refine Aw Tryz.func19 z z ?_
 have hC0:=A1 w0
 unfold M.Without at hF
 refine Ac<|Ae z z<|Ab<|Ac<|A8 (vs:=[]) hC0 AR ty84 z z z z (by simp) z z fun b1 w1 hC1 hB1=>?_
 have hC2:=hC1.row0 (α:=((Int × (List Int)) × (List (Int × (List Int)))))
 have hC3:=hC2.front 1 z
 dsimp only [List.eraseIdx,List.cons_append,List.nil_append,List.append_nil] at hC3
 have hC4:Ctx [] w0 w1 (Ad (.slice (some ⟨b1,0,none⟩) 0 0) (([]:List ((Int × (List Int)) × (List (Int × (List Int))))):List ((Int × (List Int)) × (List (Int × (List Int)))))::[]):=hC3.rowOwn (by simp [maxLen])
 refine Ae z z<|Ab<|A0<|Ac<|Af z z<|AL AR g1 z z<|Af z z<|Ab<|be hF fun r1 hr1 hF=>Bf (fun l w=>∃v2:Value,∃x3:(List ((Int × (List Int)) × (List (Int × (List Int))))),x3=r1∧l=[(5,v2)]∧Ctx [] w0 w [Ad v2 (x3:(List ((Int × (List Int)) × (List (Int × (List Int))))))]) ?_ ?_
 ·refine AB<|wS (l':=[(1,u2),(5,(.slice (some ⟨b1,0,none⟩) 0 0)),(9,u1),(10,(I (List.length a1:Int))),(11,(I 0))]) ⟨z,z,z,z,z,Ah⟩<|Bo (fun k l w=>∃v1:Value,∃x1:(List ((Int × (List Int)) × (List (Int × (List Int))))),∃x2:Int,l=[(1,u2),(5,v1),(9,u1),(10,(I (List.length a1:Int))),(11,(I x2))]∧Ctx [] w0 w [Ad v1 (x1:(List ((Int × (List Int)) × (List (Int × (List Int))))))]∧M.Without_l1 a1 a2 k x1 x2=some r1) FUEL ⟨(.slice (some ⟨b1,0,none⟩) 0 0),([]:List ((Int × (List Int)) × (List (Int × (List Int))))),0,z,hC4,hr1⟩<|?_
  clear hr1
  rintro k1 _ w2 ⟨v1,x1,x2,rfl,hC5,hL1⟩
  cases k1 with
  | zero=>rw [M.Without_l1] at hL1; cases hL1
  | succ k1 =>
   rw [M.Without_l1] at hL1
   refine Ac<|AW z z z<|Ab<|A0<|A7 z (fun hc1=>?_) (fun hc1=>?_)
   ·replace hL1:=A9 hL1 hc1
    refine A6<|Aj<|A0<|AB<|Ac<|Af z z<|be hL1 fun x4 hx1 hL1=>AE AR ty84 g1 hx1 z z z fun b2 o1 h1=>AH ty84 h1 hC5.keep z z fun v3 h2=>?_
    obtain ⟨v4,v5,rfl,h3,h4⟩:=C0 h2
    refine B0 hC5 zero84 z z fun b3 w3 hC6 hB3 hN1=>Ae z z<|AS (cs':=[(I x4.1.1),v4,v5]) (new:=[(I x4.1.1),v4,v5]) hC6 0 z z (fac z<|fac (B1 h3)<|fac (B1 h4)<|fa0) z B3 z z fun w4 hC7 hKp1=>?_
    try dsimp only [List.set] at hC7
    have hk1:=AI (Ap hB3) hN1 hKp1
    refine Ab<|Ac<|Af z z<|Af z z<|be hL1 fun x5 hr2 hL1=>cb Tryz.call57 z z (c_Slices_Contains_Lint_int a2 u2 (g2.now hC7.keep) x2 x5 hr2) fun w5 hB4=>have hC8:=hC7.grow hB4;Bw z z<|Ab<|be hL1 fun r2 hr3 hL1=>Bf (fun l w=>∃v6:Value,∃x6:(List ((Int × (List Int)) × (List (Int × (List Int))))),x6=r2∧l=[(1,u2),(5,v6),(9,u1),(10,(I (List.length a1:Int))),(11,(I x2))]∧Ctx [] w0 w [Ad v6 (x6:(List ((Int × (List Int)) × (List (Int × (List Int))))))]) ?_ ?_
    ·refine A7 z (fun hc2=>?_) (fun hc2=>?_)
     ·replace hr3:=A9 hr3 hc2
      refine AX<|Af z z<|A4 [(I x4.1.1),v4,v5] hC8 0 z z z BF B3 z z<|be hr3 fun x7 hr4 hr3=>Bc Tryz.call58 z z (c_M_copyTold ((x4.1.1,x4.1.2),x4.2) v4 (h3.now hC8.keep) v5 (h4.now hC8.keep) x7 hr4)<|?_
      rintro v7 w7 ⟨hB6,F1,hv2,hn1,hb1⟩
      have hC10:=hC8.push hB6 (A:=Ad v7 x7) hv2 hn1 hb1
      obtain ⟨v8,v9,rfl,hC11⟩:=st84_own hC10
      refine A8 (vs:=[(.agg #[(I x7.1.1),v8,v9])]) hC11 AR ty84 z z z z (fac z<|fa0) z z (fun b4 w9 hC12 hB7=>?_)
      have hC13:=hC12.row0 (α:=((Int × (List Int)) × (List (Int × (List Int)))))
      have hC15:=hC13.f3
      have hC16:=hC15.f3
      have hC14:=CC x7.1.1 v8 x7.1.2 v9 x7.2 hC16
      have hC17:=hC14.row1
      have hC18:=hC17.front 1 z
      dsimp only [List.eraseIdx,List.cons_append,List.nil_append,List.append_nil] at hC18
      have hC19:Ctx [] w0 w9 (Ad (.slice (some ⟨b4,0,none⟩) 1 1) ([((x7.1.1,x7.1.2),x7.2)]:List ((Int × (List Int)) × (List (Int × (List Int)))))::[Ai b3 [(I x4.1.1),v4,v5],Ad v1 (x1:(List ((Int × (List Int)) × (List (Int × (List Int))))))]):=hC18.rowOwn (by simp [maxLen])
      refine be hr3 fun x8 hx2 hr3=>BA hC19 1 z AR ty84 z hx2 z z z fun v10 w10 hC20=>?_
      try dsimp only [List.set] at hC20
      refine Ae z z<|Ab<|?_
      obtain rfl:=Aa hr3
      have hC22:=hC20.f1
      have hC23:=hC22.h1
      exact An (l':=[(1,u2),(5,v10),(9,u1),(10,(I (List.length a1:Int))),(11,(I x2))]) ⟨z,z,z,z,z,Ah⟩<|⟨v10,x8,z,z,hC23⟩
     replace hr3:=AA hr3 hc2
     refine A6 ?_
     obtain rfl:=Aa hr3
     have hC24:=hC8.f1
     have hC25:=hC24.h1
     exact An (l':=[(1,u2),(5,v1),(9,u1),(10,(I (List.length a1:Int))),(11,(I x2))]) ⟨z,z,z,z,z,Ah⟩<|⟨v1,x1,z,z,hC25⟩
    rintro l2 _ w6 hs2 ⟨v6,x6,rfl,rfl,hC9⟩
    try dsimp only at hL1
    refine AJ<|AO hs2<|?_
    clear hs2
    exact AX<|Be z z z<|Af z z<|Ab<|An (l':=[(1,u2),(5,v6),(9,u1),(10,(I (List.length a1:Int))),(11,(I (w64 (x2+1))))]) ⟨z,z,z,z,z,Ah⟩<|⟨k1,Az _,v6,x6,w64 (x2+1),z,hC9,hL1⟩
   replace hL1:=AA hL1 hc1
   refine Bm (A2 (A2 (AT ?_)))
   obtain rfl:=Aa hL1
   exact An (l':=[(5,v1)]) ⟨z,Ah⟩<|⟨v1,x1,z,z,hC5⟩
 rintro l3 _ w11 hs3 ⟨v2,x3,rfl,rfl,hC26⟩
 try dsimp only at hF
 refine AO hs3 ?_
 clear hs3
 refine Ac<|Af z z<|Ae z z<|Ab<|AC<|?_
 obtain rfl:=Aa hF
 exact Ay z z<|⟨_,z,B7 hC26 0 z⟩
theorem c_M_removals_c1 {w0:World} (a1:(List Int)) (u1:Value) (g1:RO [] w0 u1 a1) (pb1:Nat) (ax1:(List Int)) (g2:ROAt [] w0 pb1 0 ax1) (pb2:Nat) (ax2:(List (Int × (List Int) × Int × Int × Int))) (g3:ROAt [] w0 pb2 0 ax2) (pb3:Nat) (ax3:(List ((Int × (List Int)) × (List (Int × (List Int)))))) (g4:ROAt [] w0 pb3 0 ax3) (rr:Bool) (hF:M.removals_c1 a1 ax1 ax2 ax3=some rr) :
 Calls Tryz.prog 85 [u1,(ptr pb1 0),(ptr pb2 0),(ptr pb3 0)].toArray w0 fun e w'=>∃v,e=.returned v∧Res w0 rr v w':=by
 refine Aw Tryz.func85 z z ?_
 have hC0:=A1 w0
 unfold M.removals_c1 at hF
 refine Ac<|Ae z z<|Ab<|A0<|W_drawn 7 z hmix fun w1 hB1=>have hC1:=hC0.grow hB1;tm 3 z z z<|be hF fun x1 hr1 hF=>wAS (l':=[(0,u1),(1,(ptr pb1 0)),(2,(ptr pb2 0)),(3,(ptr pb3 0)),(5,(.bool false)),(9,u1)]) ⟨z,z,z,z,z,z,Ah⟩<|Bq [⟨0,[],fun vs=>Cc [] w0 ax1,[]⟩,⟨1,[],fun vs=>Cc [] w0 ax2,[]⟩,⟨2,[],fun vs=>Cc [] w0 ax3,[]⟩,⟨4,[],fun vs=>BX x1,[]⟩] [[],[],[],[2]] 2 z (by kernel_rfl) (by kernel_rfl) z ?_ ?_
 ·refine Aq z ?_ ?_
  ·intro w3 hB3
   refine Ax<|⟨_,z,?_⟩
   exact AH ty24 g2 (hC1.keep.then hB3) z z fun v1 h1=>Ab<|A3 (Am _ _) z z ⟨z,h1⟩
  refine Aq z ?_ ?_
  ·intro w3 hB3
   refine Ax<|⟨_,z,?_⟩
   exact AH ty25 g3 (hC1.keep.then hB3) z z fun v2 h2=>Ab<|A3 (Am _ _) z z ⟨z,h2⟩
  refine Aq z ?_ ?_
  ·intro w3 hB3
   refine Ax<|⟨_,z,?_⟩
   exact AH ty26 g4 (hC1.keep.then hB3) z z fun v3 h3=>Ab<|A3 (Am _ _) z z ⟨z,h3⟩
  refine Aq z ?_ ?_
  ·intro w3 hB3
   refine AN z z z ?_
   rintro v3 _ ⟨rfl,h3⟩ _
   refine Ax<|⟨_,z,?_⟩
   refine Bc Tryz.call19 z z (c_M_Without ax3 v3 (h3.now (hC1.keep.then hB3)) a1 u1 (g1.now (hC1.keep.then hB3)) x1 hr1) ?_
   rintro v4 w2 ⟨hB2,F1,hv1,hn1,hb1⟩
   exact Ab<|BW hB2 z z hv1 hn1 hb1 (Val.inh hv1)
  exact Bl
 intro w4 hB4
 refine Av z z z ?_
 rintro v1 _ ⟨rfl,h1⟩
 refine Av z z z ?_
 rintro v2 _ ⟨rfl,h2⟩
 refine Av z z z ?_
 rintro v3 _ ⟨rfl,h3⟩
 refine Av z z z fun v4 F1 hv1=>Bv fun hn2 hb2=>?_
 have hC2:=hC1.pushL hB4 (Bs:=[Ad v4 (x1:(List ((Int × (List Int)) × (List (Int × (List Int))))))]) (Fs:=[F1]) ⟨F1,_,z,hv1,z⟩ (by simpa using hn2) (fun b h=>(hb2 b (by simpa using h)).1)
 refine be hF fun x2 hr2 hF=>oe 5 z<|cb Tryz.call18 z z (c_M_IsConsistent ax1 v1 (h1.now hC2.keep) ax2 v2 (h2.now hC2.keep) x1 v4 ((hC2.ro 0 z).now (AP _ _)) x2 hr2) fun w5 hB5=>have hC3:=hC2.grow hB5;Ab<|ta 6 z z z<|dn<|Aj<|AC<|?_
 obtain rfl:=Aa hF
 exact Ay z z<|⟨_,z,AD hC3 _⟩
theorem c_Slices_Equal_Lint_int {w0:World} (a1:(List Int)) (u1:Value) (g1:RO [] w0 u1 a1) (a2:(List Int)) (u2:Value) (g2:RO [] w0 u2 a2) (rr:Bool) (hF:Slices.Equal_Lint_int a1 a2=some rr) :
 Calls Tryz.prog 186 [u1,u2].toArray w0 fun e w'=>∃v,e=.returned v∧Res w0 rr v w':=by
 refine Aw Tryz.func186 z z ?_
 have hC0:=A1 w0
 unfold Slices.Equal_Lint_int at hF
 refine Ac<|Ae z z<|Ab<|A0<|Ac<|Af z z<|AL Ag g1 z z<|Af z z<|AL Ag g2 z z<|BI z z z<|Ab<|A7 z (fun hc1=>?_) (fun hc1=>?_)
 ·replace hF:=A9 hF hc1
  refine Ac<|Ae z z<|Ab<|AC<|Ar<|?_
  obtain rfl:=Aa hF
  exact Ay z z<|⟨_,z,AD hC0 _⟩
 replace hF:=AA hF hc1
 refine A6<|Aj<|A0<|Ac<|Af z z<|AL Ag g1 z z<|Af z z<|Ab<|be hF fun r1 hr1 hF=>Bf (fun l w=>.inl ()=r1∧l=[]∧Below w0.heap.size w0 w∧Ctx [] w0 w []) ?_ ?_
 ·refine AB<|wS (l':=[(0,u1),(1,u2),(12,(I (List.length a1:Int))),(13,(I 0))]) ⟨z,z,z,z,Ah⟩<|Bo (fun k l w=>∃x1:Int,l=[(0,u1),(1,u2),(12,(I (List.length a1:Int))),(13,(I x1))]∧Below w0.heap.size w0 w∧Ctx [] w0 w []∧Slices.Equal_Lint_int_l1 a1 a2 k x1=some r1) FUEL ⟨0,z,(Am _ _),hC0,hr1⟩<|?_
  clear hr1
  rintro k1 _ w1 ⟨x1,rfl,hB1,hC1,hL1⟩
  cases k1 with
  | zero=>rw [Slices.Equal_Lint_int_l1] at hL1; cases hL1
  | succ k1 =>
   rw [Slices.Equal_Lint_int_l1] at hL1
   refine Ac<|AW z z z<|Ab<|A0<|A7 z (fun hc2=>?_) (fun hc2=>?_)
   ·replace hL1:=A9 hL1 hc2
    refine A6<|Aj<|A0<|AB<|Ac<|Af z z<|Ae z z<|Ab<|A0<|W_drawn 9 z hmix fun w2 hB2=>have hC2:=hC1.grow hB2;tm 0 z z z<|tm 1 z z z<|be hL1 fun x2 hx1 hL1=>tk 2 z z (B8 Ag ty3 g1 hx1 z z)<|AE Ag ty3 g1 hx1 z z z fun b1 o1 h1=>Ab<|tm 4 z z z<|tm 5 z z z<|be hL1 fun x3 hx2 hL1=>tk 6 z z (B8 Ag ty3 g2 hx2 z z)<|AE Ag ty3 g2 hx2 z z z fun b2 o2 h2=>Ab<|wAS (l':=[(0,u1),(1,u2),(5,(I x1)),(12,(I (List.length a1:Int))),(13,(I x1)),(14,(.bool (decide (x1 < (List.length a1:Int))))),(15,(I x1)),(16,u1),(17,(I x1)),(18,(ptr b1 o1)),(20,u2),(21,(I x1)),(22,(ptr b2 o2))]) ⟨z,z,z,z,z,z,z,z,z,z,z,z,z,Ah⟩<|Bq [⟨3,[],fun vs=>Bg (I x2),[]⟩,⟨7,[],fun vs=>Bg (I x3),[]⟩] [[],[]] 1 z (by kernel_rfl) (by kernel_rfl) z ?_ ?_
    ·refine Aq z ?_ ?_
     ·intro w3 hB3
      refine Ax<|⟨_,z,?_⟩
      refine AH ty3 h1 (hC2.keep.then hB3) z z (fun v1 h3=>?_)
      obtain rfl:=By h3
      exact Ab<|A3 (Am _ _) z z ⟨z,z⟩
     refine Aq z ?_ ?_
     ·intro w3 hB3
      refine Ax<|⟨_,z,?_⟩
      refine AH ty3 h2 (hC2.keep.then hB3) z z (fun v2 h4=>?_)
      obtain rfl:=By h4
      exact Ab<|A3 (Am _ _) z z ⟨z,z⟩
     exact Bl
    intro w4 hB4
    refine Av z z z ?_
    rintro _ _ ⟨rfl,rfl⟩
    refine Av z z z ?_
    rintro _ _ ⟨rfl,rfl⟩
    refine Bv fun hn1 hb1=>have hC3:=hC2.grow hB4;tk 8 z z (CZ z z)<|BI z z z<|Ab<|dn<|Aj<|A7 z (fun hc3=>?_) (fun hc3=>?_)
    ·replace hL1:=A9 hL1 hc3
     refine Ac<|Ae z z<|Ab<|AC<|AU<|Ar<|Ar<|AU<|Ar<|Ar<|?_
     obtain rfl:=Aa hL1
     dsimp only at hF
     obtain rfl:=Aa hF
     exact Ay z z<|⟨_,z,AD hC3 _⟩
    replace hL1:=AA hL1 hc3
    exact A6<|AJ<|Aj<|AX<|Be z z z<|Af z z<|Ab<|An (l':=[(0,u1),(1,u2),(12,(I (List.length a1:Int))),(13,(I (w64 (x1+1))))]) ⟨z,z,z,z,Ah⟩<|⟨k1,Az _,w64 (x1+1),z,(((Ap hB1).then hB2).then hB4).below,hC3,hL1⟩
   replace hL1:=AA hL1 hc2
   refine Bm (A2 (A2 (AT ?_)))
   obtain rfl:=Aa hL1
   exact An (l':=[]) Ah<|⟨z,z,(Ap hB1).below,hC1⟩
 rintro l2 _ w5 hs2 ⟨rfl,rfl,hB5,hC4⟩
 try dsimp only at hF
 refine AO hs2 ?_
 clear hs2
 refine Ac<|Ae z z<|Ab<|AC<|?_
 obtain rfl:=Aa hF
 exact Ay z z<|⟨_,z,AD hC4 _⟩
theorem c_M_hasTuple_c1 {w0:World} (a1:(List Int)) (u1:Value) (g1:RO [] w0 u1 a1) (pb1:Nat) (ax1:(List Int)) (g2:ROAt [] w0 pb1 0 ax1) (rr:Bool) (hF:M.hasTuple_c1 a1 ax1=some rr) :
 Calls Tryz.prog 185 [u1,(ptr pb1 0)].toArray w0 fun e w'=>∃v,e=.returned v∧Res w0 rr v w':=by
 refine Aw Tryz.func185 z z ?_
 have hC0:=A1 w0
 unfold M.hasTuple_c1 at hF
 refine Ac<|Ae z z<|Ab<|Ac<|Af z z<|AH ty24 g2 hC0.keep z z fun v1 h1=>be hF fun x1 hr1 hF=>cb Tryz.call186 z z (c_Slices_Equal_Lint_int a1 u1 (g1.now hC0.keep) ax1 v1 (h1.now hC0.keep) x1 hr1) fun w1 hB1=>have hC1:=hC0.grow hB1;Ae z z<|Ab<|AC<|?_
 obtain rfl:=Aa hF
 exact Ay z z<|⟨_,z,AD hC1 _⟩
theorem c_Slices_IndexFunc_LLint_Lint_M_hasTuple_c1 {w0:World} (a1:(List (List Int))) (u1:Value) (g1:RO [] w0 u1 a1) (pb1:Nat) (ax1:(List Int)) (g2:ROAt [] w0 pb1 0 ax1) (rr:Int) (hF:Slices.IndexFunc_LLint_Lint_M_hasTuple_c1 a1 ax1=some rr) :
 Calls Tryz.prog 140 [u1,(.func (.func 185) #[] #[(ptr pb1 0)])].toArray w0 fun e w'=>∃v,e=.returned v∧Res w0 rr v w':=by
 refine Aw Tryz.func140 z z ?_
 have hC0:=A1 w0
 unfold Slices.IndexFunc_LLint_Lint_M_hasTuple_c1 at hF
 refine Ac<|Ae z z<|Ab<|A0<|Ac<|Af z z<|AL AG g1 z z<|Af z z<|Ab<|be hF fun r1 hr1 hF=>Bf (fun l w=>.inl ()=r1∧l=[]∧Below w0.heap.size w0 w∧Ctx [] w0 w []) ?_ ?_
 ·refine AB<|wS (l':=[(0,u1),(1,(.func (.func 185) #[] #[(ptr pb1 0)])),(7,(I (List.length a1:Int))),(8,(I 0))]) ⟨z,z,z,z,Ah⟩<|Bo (fun k l w=>∃x1:Int,l=[(0,u1),(1,(.func (.func 185) #[] #[(ptr pb1 0)])),(7,(I (List.length a1:Int))),(8,(I x1))]∧Below w0.heap.size w0 w∧Ctx [] w0 w []∧Slices.IndexFunc_LLint_Lint_M_hasTuple_c1_l1 a1 ax1 k x1=some r1) FUEL ⟨0,z,(Am _ _),hC0,hr1⟩<|?_
  clear hr1
  rintro k1 _ w1 ⟨x1,rfl,hB1,hC1,hL1⟩
  cases k1 with
  | zero=>rw [Slices.IndexFunc_LLint_Lint_M_hasTuple_c1_l1] at hL1; cases hL1
  | succ k1 =>
   rw [Slices.IndexFunc_LLint_Lint_M_hasTuple_c1_l1] at hL1
   refine Ac<|AW z z z<|Ab<|A0<|A7 z (fun hc1=>?_) (fun hc1=>?_)
   ·replace hL1:=A9 hL1 hc1
    refine A6<|Aj<|A0<|AB<|Ac<|Af z z<|Ae z z<|Ab<|Ac<|Af z z<|Af z z<|Af z z<|be hL1 fun x2 hx1 hL1=>AE AG ty24 g1 hx1 z z z fun b1 o1 h1=>AH ty24 h1 hC1.keep z z fun v1 h2=>be hL1 fun x3 hr2 hL1=>BQ (cap:=[(ptr pb1 0)]) Tryz.call185 z z z (c_M_hasTuple_c1 x2 v1 (h2.now hC1.keep) pb1 ax1 (g2.now hC1.keep) x3 hr2) fun _ w2 hv1=>?_
    obtain ⟨rfl,hB2⟩:=BR hv1
    have hC2:=hC1.grow hB2
    refine Ab<|A7 z (fun hc2=>?_) (fun hc2=>?_)
    ·replace hL1:=A9 hL1 hc2
     refine Ac<|Af z z<|Ae z z<|Ab<|AC<|AU<|Ar<|Ar<|AU<|Ar<|Ar<|?_
     obtain rfl:=Aa hL1
     dsimp only at hF
     obtain rfl:=Aa hF
     exact Ay z z<|⟨_,z,Bk hC2 _⟩
    replace hL1:=AA hL1 hc2
    exact A6<|AJ<|Aj<|AX<|Be z z z<|Af z z<|Ab<|An (l':=[(0,u1),(1,(.func (.func 185) #[] #[(ptr pb1 0)])),(7,(I (List.length a1:Int))),(8,(I (w64 (x1+1))))]) ⟨z,z,z,z,Ah⟩<|⟨k1,Az _,w64 (x1+1),z,((Ap hB1).then hB2).below,hC2,hL1⟩
   replace hL1:=AA hL1 hc1
   refine Bm (A2 (A2 (AT ?_)))
   obtain rfl:=Aa hL1
   exact An (l':=[]) Ah<|⟨z,z,(Ap hB1).below,hC1⟩
 rintro l2 _ w3 hs2 ⟨rfl,rfl,hB3,hC3⟩
 try dsimp only at hF
 refine AO hs2 ?_
 clear hs2
 refine Ac<|Ae z z<|Ab<|AC<|?_
 obtain rfl:=Aa hF
 exact Ay z z<|⟨_,z,Bk hC3 _⟩
theorem c_Slices_ContainsFunc_LLint_Lint_M_hasTuple_c1 {w0:World} (a1:(List (List Int))) (u1:Value) (g1:RO [] w0 u1 a1) (pb1:Nat) (ax1:(List Int)) (g2:ROAt [] w0 pb1 0 ax1) (rr:Bool) (hF:Slices.ContainsFunc_LLint_Lint_M_hasTuple_c1 a1 ax1=some rr) :
 Calls Tryz.prog 91 [u1,(.func (.func 185) #[] #[(ptr pb1 0)])].toArray w0 fun e w'=>∃v,e=.returned v∧Res w0 rr v w':=by
 refine Aw Tryz.func91 z z ?_
 have hC0:=A1 w0
 unfold Slices.ContainsFunc_LLint_Lint_M_hasTuple_c1 at hF
 refine Ac<|Ae z z<|Ab<|Ac<|Af z z<|Af z z<|be hF fun x1 hr1 hF=>ci Tryz.call140 z z (c_Slices_IndexFunc_LLint_Lint_M_hasTuple_c1 a1 u1 (g1.now hC0.keep) pb1 ax1 (g2.now hC0.keep) x1 hr1) fun w1 hB1=>have hC1:=hC0.grow hB1;Cu z z z<|Ae z z<|Ab<|AC<|?_
 obtain rfl:=Aa hF
 exact Ay z z<|⟨_,z,AD hC1 _⟩
theorem c_M_hasTuple {w0:World} (a1:(List (List Int))) (u1:Value) (g1:RO [] w0 u1 a1) (a2:(List Int)) (u2:Value) (g2:RO [] w0 u2 a2) (rr:Bool) (hF:M.hasTuple a1 a2=some rr) :
 Calls Tryz.prog 139 [u1,u2].toArray w0 fun e w'=>∃v,e=.returned v∧Res w0 rr v w':=by
 refine Aw Tryz.func139 z z ?_
 have hC0:=A1 w0
 unfold M.hasTuple at hF
 refine Ac<|Bb (cs:=[u2]) hC0 (ro_cells g2) z z fun b1 w1 hC1 hB1 hN1=>Ae z z<|Ab<|Ac<|Af z z<|BS z z<|be hF fun x1 hr1 hF=>cb Tryz.call91 z z (c_Slices_ContainsFunc_LLint_Lint_M_hasTuple_c1 a1 u1 (g1.now hC1.keep) b1 a2 (hC1.boxAt 0 z (repw_slice (g2.now hC1.keep))) x1 hr1) fun w2 hB2=>have hC2:=hC1.grow hB2;Ae z z<|Ab<|AC<|?_
 obtain rfl:=Aa hF
 exact Ay z z<|⟨_,z,AD hC2 _⟩
theorem c_M_addedTuple_c1 {w0:World} (a1:(List Int)) (u1:Value) (g1:RO [] w0 u1 a1) (pb1:Nat) (ax1:(List Int)) (g2:ROAt [] w0 pb1 0 ax1) (rr:Bool) (hF:M.addedTuple_c1 a1 ax1=some rr) :
 Calls Tryz.prog 141 [u1,(ptr pb1 0)].toArray w0 fun e w'=>∃v,e=.returned v∧Res w0 rr v w':=by
 refine Aw Tryz.func141 z z ?_
 have hC0:=A1 w0
 unfold M.addedTuple_c1 at hF
 refine Ac<|Ae z z<|Ab<|Ac<|Af z z<|AH ty24 g2 hC0.keep z z fun v1 h1=>be hF fun x1 hr1 hF=>ci Tryz.call138 z z (c_Slices_Compare_Lint_int a1 u1 (g1.now hC0.keep) ax1 v1 (h1.now hC0.keep) x1 hr1) fun w1 hB1=>have hC1:=hC0.grow hB1;C1 z z z<|Ae z z<|Ab<|AC<|?_
 obtain rfl:=Aa hF
 exact Ay z z<|⟨_,z,AD hC1 _⟩
theorem c_Slices_Insert_LLint_Lint {Fs:List (List Nat)} {w0:World} (a1:(List (List Int))) (u1:Value) (a2:Int) (a3:(List (List Int))) (u2:Value) (hH:Hold [Ad u1 (a1:(List (List Int))),Ad u2 (a3:(List (List Int)))] w0 Fs) (hn:Fs.flatten.Nodup) (rr:(List (List Int))) (hF:Slices.Insert_LLint_Lint a1 a2 a3=some rr) :
 Calls Tryz.prog 142 [u1,(I a2),u2].toArray w0 fun e w'=>∃v,e=.returned v∧∃q0:Value,v=q0∧Ctx Fs.flatten w0 w' [Ad q0 (rr:(List (List Int)))]:=by
 refine Aw Tryz.func142 z z ?_
 have hC0:=BV hH hn
 unfold Slices.Insert_LLint_Lint at hF
 obtain ⟨m,rfl,hm,hb1,hlim,rfl⟩:=ins_some hF
 have hsub:sub a1 (m:Int) (a1.length:Int)=some (a1.drop m):=by unfold sub; rw [if_pos (by omega)]; simp
 have hb1':(a3.length:Int)=1:=by omega
 have hlim':a1.length+1 ≤ 4294967296:=by rw [LIM_eq] at hlim; exact hlim
 have hw1:w64 ((a1.length:Int)+1)=((a1.length+1:Nat):Int):=by rw [w64_id (by omega) (by omega)]; omega
 have hw2:w64 (((a1.length+1:Nat):Int) - (m:Int))=((a1.length+1 - m:Nat):Int):=by rw [w64_id (by omega) (by omega)]; omega
 have hw3:w64 ((m:Int)+1)=((m+1:Nat):Int):=by rw [w64_id (by omega) (by omega)]; omega
 refine Ac<|Ae z z<|Ab<|Ac<|Af z z<|Af z z<|WL_slice_l AG ty24 (hC0.ro 0 z) hsub z z z fun v1 h1=>Ab<|Ac<|Af z z<|AL AG (hC0.ro 1 z) z z<|?_
 rw [hb1']
 refine Ae z z<|Ab<|A0<|Ac<|Af z z<|Ca z z z<|Ab<|CB z<|A6<|Aj<|Ac<|Af z z<|AL AG (hC0.ro 0 z) z z<|Ae z z<|Ab<|A0<|Ac<|Af z z<|Af z z<|Ca z z z<|?_
 by_cases hi:m=a1.length
 ·have e1:a1.take m ++ a3 ++ a1.drop m=a1 ++ a3:=by rw [List.take_of_length_le (by omega),List.drop_of_length_le (by omega),List.append_nil]
  rw [e1,decide_eq_true (show (m:Int)=(a1.length:Int) by omega)]
  refine Ab<|CA z<|Ac<|Af z z<|Af z z<|?_
  have happ:app a1 a3=some (a1 ++ a3):=by unfold app; rw [if_pos (by omega)]
  exact BA hC0.swap 0 z AG ty24 z happ z z z fun v2 w2 hC2=>Ae z z<|Ab<|AC<|Ar<|Ay z z<|⟨_,z,_,z,hC2⟩
 rw [decide_eq_false (show ¬ (m:Int)=(a1.length:Int) by omega)]
 refine Ab<|CB z<|A6<|Aj<|?_
 have hml:m < a1.length:=by omega
 obtain ⟨b,c,row,T,cells,Fe,vb,vc,vrow,vT,vcells,Ge,rfl,rfl,h4,g4,h5,g5,h6,g6,h8,g8,h10,h11,h12,h13,h14,h15,hK⟩:=hC0.ins_raw (by intro e; rw [e] at hml; simp at hml) (by intro e; rw [e] at hb1; simp at hb1)
 have hcl:=elems_len h5
 have hvl:=elems_len g5
 rw [hb1] at hvl
 have hyl:(cells.drop (m * Rep.sz (List Int))).length=(a1.length - m) * Rep.sz (List Int):=by rw [List.length_drop,hcl,Nat.sub_mul]
 have hvr:(vrow.toList.drop 0).take (1 * Rep.sz (List Int))=vcells:=by rw [List.drop_zero,← g6,hb1]
 have hv1:=elems_one g5
 have hy1:∀ u ∈ cells.drop (m * Rep.sz (List Int)),u.oneCell'=true:=fun u hu=>elems_one h5 u (List.mem_of_mem_drop hu)
 refine A0<|Ac<|Af z z<|Af z z<|Be z z z<|?_
 rw [hw1]
 refine Af z z<|WL_cap AG z z<|C1 z z z<|?_
 by_cases hr:c < a1.length+1
 ·rw [decide_eq_true (show (c:Int) < ((a1.length+1:Nat):Int) by omega)]
  refine Ab<|CA z<|Ac<|Af z z<|Af z z<|WL_sl_h AG ty24 (show m ≤ c by omega) (by omega) z z z<|Af z z<|Af z z<|Be z z z<|?_
  rw [hw1]
  refine Af z z<|Cv z z z<|?_
  rw [hw2]
  refine WL_zeros AG ty24 z Tryz.underlying3 h4 (take_cells h6 hm) (by rw [List.length_take,hcl,Nat.min_eq_left (Nat.mul_le_mul_right _ hm)]) (show 0 < a1.length+1 - m by omega) (by omega) (by rw [LIM_eq]; omega) z z z (fun c' row' k1 k2 k3 k4=>?_)
  rw [show m+(a1.length+1 - m)=a1.length+1 by omega] at k3 ⊢
  obtain ⟨q1,q2,q3⟩:=row_grow (row':=row') hm hcl hvl k1 k2 k3
  obtain ⟨w1,hw1e⟩:∃w1,w1=w0.drew.alloc (.cells row' 24):=⟨_,z⟩
  have hA1:w1.heap[w0.heap.size]?=some (.cells row' 24 (0,0)):=by rw [hw1e]; exact heap_alloc_new w0.drew _
  have hB1:Below w0.heap.size w0 w1:=by rw [hw1e]; exact below_new w0 _
  rw [← hw1e]
  refine Ae z z<|Ab<|Ac<|Af z z<|Af z z<|Cw AG ty24 (show m < c' by omega) (show m ≤ a1.length+1 by omega) k3 z z z<|Af z z<|Dc (m:=1) AG ty24 hA1 ((hB1.block vb (heap_lt g4)).trans g4) (by show Dd a3.length (a1.length+1 - m)=1; rw [hb1]; exact Nat.min_eq_left (by omega)) hvr hvl hv1 (by rw [hvl,k2,Nat.zero_add,← Nat.add_mul]; exact Nat.mul_le_mul_right _ (by omega)) z z z<|?_
  generalize hr1:(row'.toList.take (0+m * Rep.sz (List Int)) ++ vcells ++ row'.toList.drop (0+m * Rep.sz (List Int)+vcells.length)).toArray=r1 at q1 q2 q3 ⊢
  have hA2:(w1.setRow w0.heap.size r1).heap[w0.heap.size]?=some (.cells r1 24 (0,0)):=setRow_heap _ _ _ _ _ _ hA1
  have hB2:Below w0.heap.size w0 (w1.setRow w0.heap.size r1):=below_row hB1 (Dk _)
  refine Ab<|A0<|W_drawn 9 z hmix fun w3 hB3=>tk 0 z z (Cb z)<|Af z z<|Ab<|tk 1 z z (Cb z)<|Af z z<|Ab<|tk 2 z z (Cb z)<|Af z z<|Ab<|tk 3 z z (fl_add z z)<|Be z z z<|?_
  rw [hw3]
  refine Ab<|tk 4 z z (De AG ty24 (show m+1 < c' by omega) (show m+1 ≤ a1.length+1 by omega) k3 z z)<|Cw AG ty24 (show m+1 < c' by omega) (show m+1 ≤ a1.length+1 by omega) k3 z z z<|Ab<|tk 5 z z (Cb z)<|Af z z<|Ab<|tk 6 z z (Cb z)<|Af z z<|Ab<|tk 7 z z (De AG ty24 (show m < c by omega) hm h10 z z)<|Cw AG ty24 (show m < c by omega) hm h10 z z z<|Ab<|?_
  have hA3:w3.heap[w0.heap.size]?=some (.cells r1 24 (0,0)):=(hB3.block _ (heap_lt hA2)).trans hA2
  have hB30:Below w0.heap.size w0 w3:=hB2.trans ⟨hB3.os,hB3.tape,hB3.output,hB3.size,fun k hk=>hB3.block k (Nat.lt_of_lt_of_le hk hB2.size)⟩
  refine oe 8 z<|Dc (m:=a1.length - m) AG ty24 hA3 ((hB30.block b (heap_lt h4)).trans h4) (by show Dd (a1.length - m) (a1.length+1 - (m+1))=a1.length - m; rw [show a1.length+1 - (m+1)=a1.length - m by omega]; exact Nat.min_self _) (drop_cells h6) hyl hy1 (by rw [hyl,q3,Nat.zero_add,← Nat.add_mul]; exact Nat.mul_le_mul_right _ (by omega)) z z z<|?_
  generalize hr2:(r1.toList.take (0+(m+1) * Rep.sz (List Int)) ++ cells.drop (m * Rep.sz (List Int)) ++ r1.toList.drop (0+(m+1) * Rep.sz (List Int)+(cells.drop (m * Rep.sz (List Int))).length)).toArray=r2 at q1 q2 ⊢
  refine Ab<|dn<|Aj<|Ac<|Af z z<|Ae z z<|Ab<|AC<|Ar<|Ay z z<|?_
  have hB4:Below w0.heap.size w0 (w3.setRow w0.heap.size r2):=below_row hB30 (Dk _)
  have hin:∀ k ∈ Fe ++ Ge,k < w0.heap.size:=fun k hk=>(List.mem_append.1 hk).elim (elems_inh h5 k) (elems_inh g5 k)
  obtain ⟨F',e1,e2,e3⟩:=ins_val (w':=w3.setRow w0.heap.size r2) h5 g5 h14 hm hb1 (g:=w0.heap.size) (fun h=>absurd (hin _ h) (Nat.lt_irrefl _)) (setRow_heap _ _ _ _ _ _ hA3) (fun k hk=>hB4.block k (hin k hk)) q1 q2 k3 k4
  exact ⟨_,z,_,z,hK _ _ _ F' ⟨hB4.os,hB4.tape,hB4.output,hB4.size,fun k hk _=>hB4.block k hk⟩ e1 e2 (fun k hk=>(e3 k hk).elim (fun h=>.inr (.inr (Nat.le_of_eq h.symm))) (fun h=>.inr (.inl h)))⟩
 rw [decide_eq_false (show ¬ (c:Int) < ((a1.length+1:Nat):Int) by omega)]
 refine Ab<|CB z<|A6<|Aj<|?_
 have k3:a1.length+1 ≤ c:=by omega
 obtain ⟨q1,q2,q3⟩:=row_shift hm hcl hvl h6 h8 k3
 refine Ac<|Af z z<|Af z z<|Af z z<|Be z z z<|?_
 rw [hw1]
 refine WL_sl_h AG ty24 k3 (by omega) z z z<|Ae z z<|Ab<|A0<|Ac<|Af z z<|Af z z<|Af z z<|Af z z<|Be z z z<|?_
 rw [hw3]
 refine Cw AG ty24 (show m+1 < c by omega) (show m+1 ≤ a1.length+1 by omega) k3 z z z<|WL_apart (R:=4) (run_callFunc_extern Tryz.func187 (by kernel_rfl) (by kernel_rfl) (by kernel_rfl) (by kernel_rfl)) AG ty24 h13 h4 g4 (by rw [h8]; exact Nat.ne_of_gt (Nat.mul_pos (by omega) (by decide))) z z z<|Bw z z<|Ab<|CA z<|A0<|W_drawn 9 z hmix fun w3 hB3=>tk 0 z z (Cb z)<|Af z z<|Ab<|tk 1 z z (Cb z)<|Af z z<|Ab<|tk 2 z z (Cb z)<|Af z z<|Ab<|tk 3 z z (fl_add z z)<|Be z z z<|?_
 rw [hw3]
 refine Ab<|tk 4 z z (De AG ty24 (show m+1 < c by omega) (show m+1 ≤ a1.length+1 by omega) k3 z z)<|Cw AG ty24 (show m+1 < c by omega) (show m+1 ≤ a1.length+1 by omega) k3 z z z<|Ab<|tk 5 z z (Cb z)<|Af z z<|Ab<|tk 6 z z (Cb z)<|Af z z<|Ab<|tk 7 z z (De AG ty24 (show m < c by omega) (show m ≤ a1.length+1 by omega) k3 z z)<|Cw AG ty24 (show m < c by omega) (show m ≤ a1.length+1 by omega) k3 z z z<|Ab<|?_
 have hA3:w3.heap[b]?=some (.cells row T (0,0)):=(hB3.block _ (heap_lt h4)).trans h4
 refine oe 8 z<|Dc (m:=a1.length - m) AG ty24 hA3 hA3 (by show Dd (a1.length+1 - m) (a1.length+1 - (m+1))=a1.length - m; rw [show a1.length+1 - (m+1)=a1.length - m by omega]; exact Nat.min_eq_right (by omega)) (drop_cells h6) hyl hy1 (by rw [hyl,h8,Nat.zero_add,← Nat.add_mul]; exact Nat.mul_le_mul_right _ (by omega)) z z z<|?_
 generalize hr1:(row.toList.take (0+(m+1) * Rep.sz (List Int)) ++ cells.drop (m * Rep.sz (List Int)) ++ row.toList.drop (0+(m+1) * Rep.sz (List Int)+(cells.drop (m * Rep.sz (List Int))).length)).toArray=r1 at q1 q2 q3 ⊢
 have hA4:(w3.setRow b r1).heap[b]?=some (.cells r1 T (0,0)):=setRow_heap _ _ _ _ _ _ hA3
 have g43:(w3.setRow b r1).heap[vb]?=some (.cells vrow vT (0,0)):=(setRow_other _ _ _ _ h13).trans ((hB3.block _ (heap_lt g4)).trans g4)
 refine Ab<|dn<|Aj<|Ac<|Af z z<|Af z z<|Cw AG ty24 (show m < c by omega) (show m ≤ a1.length+1 by omega) k3 z z z<|Af z z<|Dc (m:=1) AG ty24 hA4 g43 (by show Dd a3.length (a1.length+1 - m)=1; rw [hb1]; exact Nat.min_eq_left (by omega)) hvr hvl hv1 (by rw [hvl,q3,Nat.zero_add,← Nat.add_mul]; exact Nat.mul_le_mul_right _ (by omega)) z z z<|?_
 generalize hr2:(r1.toList.take (0+m * Rep.sz (List Int)) ++ vcells ++ r1.toList.drop (0+m * Rep.sz (List Int)+vcells.length)).toArray=r2 at q1 q2 ⊢
 refine Ab<|Ac<|Af z z<|Ae z z<|Ab<|AC<|Ar<|Ay z z<|?_
 have hK4:Keep [b] w0 ((w3.setRow b r1).setRow b r2):=Keep.row (Keep.row ⟨hB3.os,hB3.tape,hB3.output,hB3.size,fun k hk _=>hB3.block k hk⟩)
 have hin:∀ k ∈ Fe ++ Ge,k < w0.heap.size:=fun k hk=>(List.mem_append.1 hk).elim (elems_inh h5 k) (elems_inh g5 k)
 obtain ⟨F',e1,e2,e3⟩:=ins_val (w':=(w3.setRow b r1).setRow b r2) h5 g5 h14 hm hb1 (g:=b) h15 (setRow_heap _ _ _ _ _ _ hA4) (fun k hk=>hK4.block k (hin k hk) (by simp only [List.mem_singleton]; intro e; exact h15 (e ▸ hk))) q1 q2 k3 h11
 exact ⟨_,z,_,z,hK _ _ _ F' hK4 e1 e2 (fun k hk=>(e3 k hk).elim .inl (fun h=>.inr (.inl h)))⟩
theorem c_Slices_IndexFunc_LLint_Lint_M_addedTuple_c1 {w0:World} (a1:(List (List Int))) (u1:Value) (g1:RO [] w0 u1 a1) (pb1:Nat) (ax1:(List Int)) (g2:ROAt [] w0 pb1 0 ax1) (rr:Int) (hF:Slices.IndexFunc_LLint_Lint_M_addedTuple_c1 a1 ax1=some rr) :
 Calls Tryz.prog 140 [u1,(.func (.func 141) #[] #[(ptr pb1 0)])].toArray w0 fun e w'=>∃v,e=.returned v∧Res w0 rr v w':=by
 refine Aw Tryz.func140 z z ?_
 have hC0:=A1 w0
 unfold Slices.IndexFunc_LLint_Lint_M_addedTuple_c1 at hF
 refine Ac<|Ae z z<|Ab<|A0<|Ac<|Af z z<|AL AG g1 z z<|Af z z<|Ab<|be hF fun r1 hr1 hF=>Bf (fun l w=>.inl ()=r1∧l=[]∧Below w0.heap.size w0 w∧Ctx [] w0 w []) ?_ ?_
 ·refine AB<|wS (l':=[(0,u1),(1,(.func (.func 141) #[] #[(ptr pb1 0)])),(7,(I (List.length a1:Int))),(8,(I 0))]) ⟨z,z,z,z,Ah⟩<|Bo (fun k l w=>∃x1:Int,l=[(0,u1),(1,(.func (.func 141) #[] #[(ptr pb1 0)])),(7,(I (List.length a1:Int))),(8,(I x1))]∧Below w0.heap.size w0 w∧Ctx [] w0 w []∧Slices.IndexFunc_LLint_Lint_M_addedTuple_c1_l1 a1 ax1 k x1=some r1) FUEL ⟨0,z,(Am _ _),hC0,hr1⟩<|?_
  clear hr1
  rintro k1 _ w1 ⟨x1,rfl,hB1,hC1,hL1⟩
  cases k1 with
  | zero=>rw [Slices.IndexFunc_LLint_Lint_M_addedTuple_c1_l1] at hL1; cases hL1
  | succ k1 =>
   rw [Slices.IndexFunc_LLint_Lint_M_addedTuple_c1_l1] at hL1
   refine Ac<|AW z z z<|Ab<|A0<|A7 z (fun hc1=>?_) (fun hc1=>?_)
   ·replace hL1:=A9 hL1 hc1
    refine A6<|Aj<|A0<|AB<|Ac<|Af z z<|Ae z z<|Ab<|Ac<|Af z z<|Af z z<|Af z z<|be hL1 fun x2 hx1 hL1=>AE AG ty24 g1 hx1 z z z fun b1 o1 h1=>AH ty24 h1 hC1.keep z z fun v1 h2=>be hL1 fun x3 hr2 hL1=>BQ (cap:=[(ptr pb1 0)]) Tryz.call141 z z z (c_M_addedTuple_c1 x2 v1 (h2.now hC1.keep) pb1 ax1 (g2.now hC1.keep) x3 hr2) fun _ w2 hv1=>?_
    obtain ⟨rfl,hB2⟩:=BR hv1
    have hC2:=hC1.grow hB2
    refine Ab<|A7 z (fun hc2=>?_) (fun hc2=>?_)
    ·replace hL1:=A9 hL1 hc2
     refine Ac<|Af z z<|Ae z z<|Ab<|AC<|AU<|Ar<|Ar<|AU<|Ar<|Ar<|?_
     obtain rfl:=Aa hL1
     dsimp only at hF
     obtain rfl:=Aa hF
     exact Ay z z<|⟨_,z,Bk hC2 _⟩
    replace hL1:=AA hL1 hc2
    exact A6<|AJ<|Aj<|AX<|Be z z z<|Af z z<|Ab<|An (l':=[(0,u1),(1,(.func (.func 141) #[] #[(ptr pb1 0)])),(7,(I (List.length a1:Int))),(8,(I (w64 (x1+1))))]) ⟨z,z,z,z,Ah⟩<|⟨k1,Az _,w64 (x1+1),z,((Ap hB1).then hB2).below,hC2,hL1⟩
   replace hL1:=AA hL1 hc1
   refine Bm (A2 (A2 (AT ?_)))
   obtain rfl:=Aa hL1
   exact An (l':=[]) Ah<|⟨z,z,(Ap hB1).below,hC1⟩
 rintro l2 _ w3 hs2 ⟨rfl,rfl,hB3,hC3⟩
 try dsimp only at hF
 refine AO hs2 ?_
 clear hs2
 refine Ac<|Ae z z<|Ab<|AC<|?_
 obtain rfl:=Aa hF
 exact Ay z z<|⟨_,z,Bk hC3 _⟩
theorem c_M_addedTuple {w0:World} {Fs:List (List Nat)} (a1:(List (List Int))) (u1:Value) (a2:(List Int)) (u2:Value) (g2:RO Fs.flatten w0 u2 a2) (hH:Hold [Ad u1 (a1:(List (List Int)))] w0 Fs) (hn:Fs.flatten.Nodup) (rr:(List (List Int))) (hF:M.addedTuple a1 a2=some rr) :
 Calls Tryz.prog 87 [u1,u2].toArray w0 fun e w'=>∃v,e=.returned v∧∃q0:Value,v=q0∧Ctx Fs.flatten w0 w' [Ad q0 (rr:(List (List Int)))]:=by
 refine Aw Tryz.func87 z z ?_
 have hC0:=BV hH hn
 unfold M.addedTuple at hF
 refine Ac<|Bb (cs:=[u2]) hC0 (ro_cells g2) z z fun b1 w1 hC1 hB1 hN1=>Ae z z<|Ab<|A0<|Ac<|Af z z<|Al hC1 0 z z At z z<|be hF fun x1 hr1 hF=>cb Tryz.call139 z z (c_M_hasTuple a1 u1 ((hC1.ro 1 z).now (AP _ _)) a2 u2 (g2.now hC1.keep) x1 hr1) fun w2 hB2=>have hC2:=hC1.grow hB2;Ab<|A7 z (fun hc1=>?_) (fun hc1=>?_)
 ·replace hF:=A9 hF hc1
  refine Ac<|Af z z<|Ae z z<|Ab<|AC<|Ar<|?_
  obtain rfl:=Aa hF
  exact Ay z z<|have hC3:=hC2.f1;have hC4:=hC3.h1;⟨_,z,_,z,hC4⟩
 replace hF:=AA hF hc1
 refine A6<|Aj<|Ac<|Af z z<|BS z z<|be hF fun x2 hr2 hF=>ci Tryz.call140 z z (c_Slices_IndexFunc_LLint_Lint_M_addedTuple_c1 a1 u1 ((hC2.ro 1 z).now (AP _ _)) b1 a2 (hC2.boxAt 0 z (repw_slice (g2.now hC2.keep))) x2 hr2) fun w3 hB3=>have hC5:=hC2.grow hB3;Ae z z<|Ab<|A0<|Ac<|Af z z<|AW z z z<|Ab<|be hF fun r1 hr3 hF=>Bf (fun l w=>∃x3:Int,x3=r1∧l=[(0,u1),(3,(ptr b1 0)),(5,(I x3))]∧Below w3.heap.size w3 w∧Ctx Fs.flatten w0 w [Ai b1 [u2],Ad u1 (a1:(List (List Int)))]) ?_ ?_
 ·refine A7 z (fun hc2=>?_) (fun hc2=>?_)
  ·replace hr3:=A9 hr3 hc2
   refine AX<|Af z z<|AL AG (hC5.ro 1 z) z z<|Ae z z<|Ab<|?_
   obtain rfl:=Aa hr3
   exact An (l':=[(0,u1),(3,(ptr b1 0)),(5,(I (List.length a1:Int)))]) ⟨z,z,z,Ah⟩<|⟨(List.length a1:Int),z,z,(Am _ _),hC5⟩
  replace hr3:=AA hr3 hc2
  refine A6 ?_
  obtain rfl:=Aa hr3
  exact An (l':=[(0,u1),(3,(ptr b1 0)),(5,(I x2))]) ⟨z,z,z,Ah⟩<|⟨x2,z,z,(Am _ _),hC5⟩
 rintro l1 _ w4 hs1 ⟨x3,rfl,rfl,hB4,hC6⟩
 try dsimp only at hF
 refine AO hs1 ?_
 clear hs1
 refine Ac<|Af z z<|Af z z<|Al hC6 0 z z At z z<|be hF fun x4 hr4 hF=>Bc CJ z z (c_Slices_Clone_Lint_int a2 u2 (g2.now hC6.keep) x4 hr4)<|?_
 rintro v1 w5 ⟨hB5,F1,hv3,hn1,hb1⟩
 have hC7:=hC6.push hB5 (A:=Ad v1 x4) hv3 hn1 hb1
 refine A8 (vs:=[v1]) hC7 AG ty24 z z z z (by intro v hv; simp only [List.mem_cons,List.not_mem_nil,or_false] at hv; rcases hv with rfl; exact (by rw [ro_cells (hC7.ro 0 z)]; rfl)) (by simp only [List.flatMap_cons,List.flatMap_nil,ro_cells (hC7.ro 0 z)]; rfl) z (fun b2 w6 hC8 hB6=>?_)
 have hC9:=hC8.row0 (α:=(List Int))
 have hC10:=hC9.f2
 have hz1:=ro_cells (hC10.ro 0 z)
 have hC11:=hC10.row1
 rw [hz1] at hC11
 have hC12:=hC11.front 1 z
 dsimp only [List.eraseIdx,List.cons_append,List.nil_append,List.append_nil] at hC12
 have hC13:Ctx Fs.flatten w0 w6 (Ad (.slice (some ⟨b2,0,none⟩) 1 1) ([x4]:List (List Int))::[Ai b1 [u2],Ad u1 (a1:(List (List Int)))]):=hC12.rowOwn (by simp [maxLen])
 refine be hF fun x5 hr5 hF=>have hC15:=hC13.f2;?_
 obtain ⟨Fs1,hH1,hn2,hF1,hO1,hb2⟩:=BO (As:=[Ai b1 [u2]]) [Ad u1 (a1:(List (List Int))),Ad (.slice (some ⟨b2,0,none⟩) 1 1) ([x4]:(List (List Int)))] hC15
 refine Bc Tryz.call142 z z (c_Slices_Insert_LLint_Lint a1 u1 x3 ([x4]) (.slice (some ⟨b2,0,none⟩) 1 1) hH1 hn2 x5 hr5) ?_
 rintro v2 w7 ⟨_,rfl,hq4⟩
 have hC16:Ctx Fs.flatten w0 w7 [Ad v2 (x5:(List (List Int))),Ai b1 [u2]]:=hb2 _ _ hq4
 refine Ae z z<|Ab<|AC<|?_
 obtain rfl:=Aa hF
 exact Ay z z<|have hC18:=hC16.h1;⟨_,z,_,z,hC18⟩
theorem c_M_smallest_M_removals_c1 {w0:World} (a1:Int) (pb1:Nat) (ax1:(List Int)) (g1:ROAt [] w0 pb1 0 ax1) (pb2:Nat) (ax2:(List (Int × (List Int) × Int × Int × Int))) (g2:ROAt [] w0 pb2 0 ax2) (pb3:Nat) (ax3:(List ((Int × (List Int)) × (List (Int × (List Int)))))) (g3:ROAt [] w0 pb3 0 ax3) (rr:((List Int) × Bool)) (hF:M.smallest_M_removals_c1 a1 ax1 ax2 ax3=some rr) :
 Calls Tryz.prog 86 [(I a1),(.func (.func 85) #[] #[(ptr pb1 0),(ptr pb2 0),(ptr pb3 0)])].toArray w0 fun e w'=>∃v,e=.returned v∧Res2 w0 rr.1 rr.2 v w':=by
 refine Aw Tryz.func86 z z ?_
 have hC0:=A1 w0
 unfold M.smallest_M_removals_c1 at hF
 refine Ac<|Ae z z<|Ae z z<|Ab<|Ac<|Ae z z<|Ab<|A0<|Ac<|Af z z<|be hF fun _ hx1 hF=>WL_shl (nn_some hx1) z z z<|Af z z<|Ab<|be hF fun r1 hr1 hF=>Bf (fun l w=>∃v2:Value,∃x4:(List Int),∃x5:Bool,(x4,x5)=r1∧l=[(6,v2)]∧Ctx [] w0 w [Ad v2 (x4:(List Int))]∧NilB v2 x5) ?_ ?_
 ·refine AB ?_
  have hC28:=hC0.triv (nil_val (α:=Int))
  refine wS (l':=[(0,(I a1)),(1,(.func (.func 85) #[] #[(ptr pb1 0),(ptr pb2 0),(ptr pb3 0)])),(6,(.slice none 0 0)),(11,(I (shl 1 a1))),(12,(I 0))]) ⟨z,z,z,z,z,Ah⟩<|Bo (fun k l w=>∃v1:Value,∃x1:(List Int),∃x2:Bool,∃x3:Int,l=[(0,(I a1)),(1,(.func (.func 85) #[] #[(ptr pb1 0),(ptr pb2 0),(ptr pb3 0)])),(6,v1),(11,(I (shl 1 a1))),(12,(I x3))]∧Ctx [] w0 w [Ad v1 (x1:(List Int))]∧NilB v1 x2∧M.smallest_M_removals_c1_l1 a1 ax1 ax2 ax3 k x1 x2 x3=some r1) FUEL ⟨(.slice none 0 0),[],true,0,z,hC28,nilB_nil,hr1⟩<|?_
  clear hr1
  rintro k1 _ w1 ⟨v1,x1,x2,x3,rfl,hC1,hnb1,hL1⟩
  cases k1 with
  | zero=>rw [M.smallest_M_removals_c1_l1] at hL1; cases hL1
  | succ k1 =>
   rw [M.smallest_M_removals_c1_l1] at hL1
   refine Ac<|AW z z z<|Ab<|A0<|A7 z (fun hc1=>?_) (fun hc1=>?_)
   ·replace hL1:=A9 hL1 hc1
    refine A6<|Aj<|A0<|AB<|Ac<|Af z z<|Ae z z<|Ab<|Ac<|A8 (vs:=[]) hC1 Ag ty3 z z z z (by simp) z z fun b1 w2 hC2 hB2=>?_
    have hC3:=hC2.row0 (α:=Int)
    have hC4:=hC3.front 1 z
    dsimp only [List.eraseIdx,List.cons_append,List.nil_append,List.append_nil] at hC4
    have hC5:Ctx [] w0 w2 (Ad (.slice (some ⟨b1,0,none⟩) 0 0) (([]:List Int):List Int)::[Ad v1 (x1:(List Int))]):=hC4.rowOwn (by simp [maxLen])
    refine Ae z z<|Ab<|A0<|Ac<|Af z z<|Af z z<|Ab<|be hL1 fun r2 hr2 hL1=>Bf (fun l w=>∃v4:Value,∃x9:(List Int),∃x10:Bool,(x9,x10)=r2∧l=[(0,(I a1)),(1,(.func (.func 85) #[] #[(ptr pb1 0),(ptr pb2 0),(ptr pb3 0)])),(6,v1),(8,v4),(11,(I (shl 1 a1))),(12,(I x3))]∧Ctx [] w0 w [Ad v4 (x9:(List Int)),Ad v1 (x1:(List Int))]∧NilB v4 x10) ?_ ?_
    ·refine AB<|wS (l':=[(0,(I a1)),(1,(.func (.func 85) #[] #[(ptr pb1 0),(ptr pb2 0),(ptr pb3 0)])),(6,v1),(7,(I x3)),(8,(.slice (some ⟨b1,0,none⟩) 0 0)),(11,(I (shl 1 a1))),(12,(I x3)),(16,(I a1)),(17,(I 0))]) ⟨z,z,z,z,z,z,z,z,z,Ah⟩<|Bo (fun k l w=>∃v3:Value,∃x6:(List Int),∃x7:Bool,∃x8:Int,l=[(0,(I a1)),(1,(.func (.func 85) #[] #[(ptr pb1 0),(ptr pb2 0),(ptr pb3 0)])),(6,v1),(7,(I x3)),(8,v3),(11,(I (shl 1 a1))),(12,(I x3)),(16,(I a1)),(17,(I x8))]∧Ctx [] w0 w [Ad v3 (x6:(List Int)),Ad v1 (x1:(List Int))]∧NilB v3 x7∧M.smallest_M_removals_c1_l2 a1 x3 k x6 x7 x8=some r2) FUEL ⟨(.slice (some ⟨b1,0,none⟩) 0 0),([]:List Int),false,0,z,hC5,nilB_some,hr2⟩<|?_
     clear hr2
     rintro k2 _ w3 ⟨v3,x6,x7,x8,rfl,hC6,hnb3,hL2⟩
     cases k2 with
     | zero=>rw [M.smallest_M_removals_c1_l2] at hL2; cases hL2
     | succ k2 =>
      rw [M.smallest_M_removals_c1_l2] at hL2
      refine Ac<|AW z z z<|Ab<|A0<|A7 z (fun hc2=>?_) (fun hc2=>?_)
      ·replace hL2:=A9 hL2 hc2
       refine A6<|Aj<|A0<|AB<|Ac<|Af z z<|Ae z z<|Ab<|Ac<|Af z z<|Af z z<|be hL2 fun _ hx2 hL2=>WL_shr (nn_some hx2) z z z<|WL_band z z z<|Ca z z z<|Ab<|be hL2 fun r3 hr3 hL2=>Bf (fun l w=>∃v5:Value,∃x11:(List Int),∃x12:Bool,(x11,x12)=r3∧l=[(0,(I a1)),(1,(.func (.func 85) #[] #[(ptr pb1 0),(ptr pb2 0),(ptr pb3 0)])),(6,v1),(7,(I x3)),(8,v5),(11,(I (shl 1 a1))),(12,(I x3)),(16,(I a1)),(17,(I x8))]∧Ctx [] w0 w [Ad v5 (x11:(List Int)),Ad v1 (x1:(List Int))]∧NilB v5 x12) ?_ ?_
       ·refine A7 z (fun hc3=>?_) (fun hc3=>?_)
        ·replace hr3:=A9 hr3 hc3
         refine AX<|Af z z<|Af z z<|A8 (vs:=[(I x8)]) hC6 Ag ty3 z z z z (fac z<|fa0) z z fun b2 w5 hC8 hB5=>?_
         have hC9:=hC8.row0 (α:=Int)
         have hC10:=hC9.triv (B2 (x8))
         have hC11:=hC10.row1
         have hC12:=hC11.front 1 z
         dsimp only [List.eraseIdx,List.cons_append,List.nil_append,List.append_nil] at hC12
         have hC13:Ctx [] w0 w5 (Ad (.slice (some ⟨b2,0,none⟩) 1 1) ([x8]:List Int)::[Ad v3 (x6:(List Int)),Ad v1 (x1:(List Int))]):=hC12.rowOwn (by simp [maxLen])
         refine be hr3 fun x13 hx3 hr3=>Bt (α:=Int) hC13 1 z (hC13.ro 0 z) (AP _ _) Ag ty3 z hx3 z z z fun v6 w6 hC14=>?_
         try dsimp only [List.set] at hC14
         refine Ae z z<|Ab<|?_
         obtain rfl:=Aa hr3
         have hC15:=hC14.f2
         have hC16:=hC15.f2
         have hC17:=hC16.h2
         exact An (l':=[(0,(I a1)),(1,(.func (.func 85) #[] #[(ptr pb1 0),(ptr pb2 0),(ptr pb3 0)])),(6,v1),(7,(I x3)),(8,v6),(11,(I (shl 1 a1))),(12,(I x3)),(16,(I a1)),(17,(I x8))]) ⟨z,z,z,z,z,z,z,z,z,Ah⟩<|⟨v6,x13,false,z,z,hC17,(nilB_own hC14 1 z (app_ne hx3))⟩
        replace hr3:=AA hr3 hc3
        refine A6 ?_
        obtain rfl:=Aa hr3
        exact An (l':=[(0,(I a1)),(1,(.func (.func 85) #[] #[(ptr pb1 0),(ptr pb2 0),(ptr pb3 0)])),(6,v1),(7,(I x3)),(8,v3),(11,(I (shl 1 a1))),(12,(I x3)),(16,(I a1)),(17,(I x8))]) ⟨z,z,z,z,z,z,z,z,z,Ah⟩<|⟨v3,x6,x7,z,z,hC6,hnb3⟩
       rintro l3 _ w4 hs3 ⟨v5,x11,x12,rfl,rfl,hC7,hnb5⟩
       try dsimp only at hL2
       refine AJ<|AO hs3<|?_
       clear hs3
       exact AX<|Be z z z<|Af z z<|Ab<|An (l':=[(0,(I a1)),(1,(.func (.func 85) #[] #[(ptr pb1 0),(ptr pb2 0),(ptr pb3 0)])),(6,v1),(7,(I x3)),(8,v5),(11,(I (shl 1 a1))),(12,(I x3)),(16,(I a1)),(17,(I (w64 (x8+1))))]) ⟨z,z,z,z,z,z,z,z,z,Ah⟩<|⟨k2,Az _,v5,x11,x12,w64 (x8+1),z,hC7,hnb5,hL2⟩
      replace hL2:=AA hL2 hc2
      refine Bm (A2 (A2 (AT ?_)))
      obtain rfl:=Aa hL2
      exact An (l':=[(0,(I a1)),(1,(.func (.func 85) #[] #[(ptr pb1 0),(ptr pb2 0),(ptr pb3 0)])),(6,v1),(8,v3),(11,(I (shl 1 a1))),(12,(I x3))]) ⟨z,z,z,z,z,z,Ah⟩<|⟨v3,x6,x7,z,z,hC6,hnb3⟩
    rintro l4 _ w7 hs4 ⟨v4,x9,x10,rfl,rfl,hC18,hnb4⟩
    try dsimp only at hL1
    refine AO hs4 ?_
    clear hs4
    refine be hL1 fun r4 hr4 hL1=>BH (fun l w=>∃x14:Bool,x14=r4∧l=[(0,(I a1)),(1,(.func (.func 85) #[] #[(ptr pb1 0),(ptr pb2 0),(ptr pb3 0)])),(6,v1),(8,v4),(11,(I (shl 1 a1))),(12,(I x3)),(56,(.bool x14))]∧Below w7.heap.size w7 w∧Ctx [] w0 w [Ad v4 (x9:(List Int)),Ad v1 (x1:(List Int))]) ?_ ?_
    ·refine AX<|Af z z<|WL_nil_eql Ag hnb1 z z<|Af z z<|Bz (fun hc4=>?_) (fun hc4=>?_)
     ·replace hr4:=A9 hr4 hc4
      refine gs z z z z<|gs z z z z<|gs z z z z<|gs z z z z<|gs z z z z<|Ba z z z<|Af z z<|gs z z z z<|gs z z z z<|gs z z z z<|gs z z z z<|gs z z z z<|gs z z z z<|gs z z z z<|gs z z z z<|gs z z z z<|gs z z z z<|gs z z z z<|Ba z z z<|Af z z<|Ak z z<|Af z z<|Ak z z<|Af z z<|be hr4 fun x15 hr5 hr4=>Ak z z<|BQ (cap:=[(ptr pb1 0),(ptr pb2 0),(ptr pb3 0)]) Dl z z z (c_M_removals_c1 x9 v4 ((hC18.ro 0 z).now (AP _ _)) pb1 ax1 (g1.now hC18.keep) pb2 ax2 (g2.now hC18.keep) pb3 ax3 (g3.now hC18.keep) x15 hr5) fun _ w10 hv1=>?_
      obtain ⟨rfl,hB8⟩:=BR hv1
      have hC20:=hC18.grow hB8
      refine Ba z z z<|Ab<|?_
      obtain rfl:=Aa hr4
      exact An (l':=[(0,(I a1)),(1,(.func (.func 85) #[] #[(ptr pb1 0),(ptr pb2 0),(ptr pb3 0)])),(6,v1),(8,v4),(11,(I (shl 1 a1))),(12,(I x3)),(56,(.bool x15))]) ⟨z,z,z,z,z,z,z,Ah⟩<|⟨x15,z,z,(Ap hB8).below,hC20⟩
     replace hr4:=AA hr4 hc4
     refine Ak z z<|Af z z<|Ak z z<|AL Ag (hC18.ro 0 z) z z<|Ak z z<|Af z z<|Ak z z<|AL Ag (hC18.ro 1 z) z z<|Ak z z<|AW z z z<|AY z z z<|Af z z<|Bz (fun hc5=>?_) (fun hc5=>?_)
     ·replace hr4:=A9 hr4 hc5
      refine gs z z z z<|gs z z z z<|gs z z z z<|gs z z z z<|gs z z z z<|gs z z z z<|gs z z z z<|gs z z z z<|gs z z z z<|gs z z z z<|gs z z z z<|Ba z z z<|Af z z<|Ak z z<|Af z z<|Ak z z<|Af z z<|be hr4 fun x16 hr6 hr4=>Ak z z<|BQ (cap:=[(ptr pb1 0),(ptr pb2 0),(ptr pb3 0)]) Dl z z z (c_M_removals_c1 x9 v4 ((hC18.ro 0 z).now (AP _ _)) pb1 ax1 (g1.now hC18.keep) pb2 ax2 (g2.now hC18.keep) pb3 ax3 (g3.now hC18.keep) x16 hr6) fun _ w11 hv2=>?_
      obtain ⟨rfl,hB9⟩:=BR hv2
      have hC21:=hC18.grow hB9
      refine Ba z z z<|Ab<|?_
      obtain rfl:=Aa hr4
      exact An (l':=[(0,(I a1)),(1,(.func (.func 85) #[] #[(ptr pb1 0),(ptr pb2 0),(ptr pb3 0)])),(6,v1),(8,v4),(11,(I (shl 1 a1))),(12,(I x3)),(56,(.bool x16))]) ⟨z,z,z,z,z,z,z,Ah⟩<|⟨x16,z,z,(Ap hB9).below,hC21⟩
     replace hr4:=AA hr4 hc5
     refine Ak z z<|Af z z<|Ak z z<|AL Ag (hC18.ro 0 z) z z<|Ak z z<|Af z z<|Ak z z<|AL Ag (hC18.ro 1 z) z z<|Ak z z<|Ca z z z<|Ak z z<|Af z z<|Bz (fun hc6=>?_) (fun hc6=>?_)
     ·replace hr4:=A9 hr4 hc6
      refine Ak z z<|Af z z<|Ak z z<|Af z z<|be hr4 fun x17 hr7 hr4=>Ak z z<|ci Tryz.call138 z z (c_Slices_Compare_Lint_int x9 v4 ((hC18.ro 0 z).now (AP _ _)) x1 v1 ((hC18.ro 1 z).now (AP _ _)) x17 hr7) fun w12 hB10=>have hC22:=hC18.grow hB10;Ak z z<|AW z z z<|Ak z z<|Ba z z z<|AY z z z<|Af z z<|Bz (fun hc7=>?_) (fun hc7=>?_)
      ·replace hr4:=A9 hr4 hc7
       refine Ak z z<|Af z z<|Ak z z<|Af z z<|be hr4 fun x18 hr8 hr4=>Ak z z<|BQ (cap:=[(ptr pb1 0),(ptr pb2 0),(ptr pb3 0)]) Dl z z z (c_M_removals_c1 x9 v4 ((hC22.ro 0 z).now (AP _ _)) pb1 ax1 (g1.now hC22.keep) pb2 ax2 (g2.now hC22.keep) pb3 ax3 (g3.now hC22.keep) x18 hr8) fun _ w13 hv4=>?_
       obtain ⟨rfl,hB11⟩:=BR hv4
       have hC23:=hC22.grow hB11
       refine Ba z z z<|Ab<|?_
       obtain rfl:=Aa hr4
       exact An (l':=[(0,(I a1)),(1,(.func (.func 85) #[] #[(ptr pb1 0),(ptr pb2 0),(ptr pb3 0)])),(6,v1),(8,v4),(11,(I (shl 1 a1))),(12,(I x3)),(56,(.bool x18))]) ⟨z,z,z,z,z,z,z,Ah⟩<|⟨x18,z,z,((Ap hB10).then hB11).below,hC23⟩
      replace hr4:=AA hr4 hc7
      refine gs z z z z<|gs z z z z<|gs z z z z<|AY z z z<|Ab<|?_
      obtain rfl:=Aa hr4
      exact An (l':=[(0,(I a1)),(1,(.func (.func 85) #[] #[(ptr pb1 0),(ptr pb2 0),(ptr pb3 0)])),(6,v1),(8,v4),(11,(I (shl 1 a1))),(12,(I x3)),(56,(.bool false))]) ⟨z,z,z,z,z,z,z,Ah⟩<|⟨false,z,z,(Ap hB10).below,hC22⟩
     replace hr4:=AA hr4 hc6
     refine gs z z z z<|gs z z z z<|gs z z z z<|gs z z z z<|Ak z z<|AY z z z<|AY z z z<|Af z z<|gs z z z z<|gs z z z z<|gs z z z z<|AY z z z<|Ab<|?_
     obtain rfl:=Aa hr4
     exact An (l':=[(0,(I a1)),(1,(.func (.func 85) #[] #[(ptr pb1 0),(ptr pb2 0),(ptr pb3 0)])),(6,v1),(8,v4),(11,(I (shl 1 a1))),(12,(I x3)),(56,(.bool false))]) ⟨z,z,z,z,z,z,z,Ah⟩<|⟨false,z,z,(Am _ _),hC18⟩
    rintro _ w9 ⟨x14,rfl,rfl,hB7,hC19⟩
    try dsimp only at hL1
    refine be hL1 fun r5 hr9 hL1=>Bf (fun l w=>∃v7:Value,∃x19:(List Int),∃x20:Bool,(x19,x20)=r5∧l=[(0,(I a1)),(1,(.func (.func 85) #[] #[(ptr pb1 0),(ptr pb2 0),(ptr pb3 0)])),(6,v7),(11,(I (shl 1 a1))),(12,(I x3))]∧Below w9.heap.size w9 w∧Ctx [] w0 w [Ad v7 (x19:(List Int))]∧NilB v7 x20) ?_ ?_
    ·refine A7 z (fun hc8=>?_) (fun hc8=>?_)
     ·replace hr9:=A9 hr9 hc8
      refine AX<|Af z z<|Ae z z<|Ab<|?_
      obtain rfl:=Aa hr9
      have hC25:=hC19.h1
      exact An (l':=[(0,(I a1)),(1,(.func (.func 85) #[] #[(ptr pb1 0),(ptr pb2 0),(ptr pb3 0)])),(6,v4),(11,(I (shl 1 a1))),(12,(I x3))]) ⟨z,z,z,z,z,Ah⟩<|⟨v4,x9,x10,z,z,(Am _ _),hC25,hnb4⟩
     replace hr9:=AA hr9 hc8
     refine A6 ?_
     obtain rfl:=Aa hr9
     have hC26:=hC19.f1
     have hC27:=hC26.h1
     exact An (l':=[(0,(I a1)),(1,(.func (.func 85) #[] #[(ptr pb1 0),(ptr pb2 0),(ptr pb3 0)])),(6,v1),(11,(I (shl 1 a1))),(12,(I x3))]) ⟨z,z,z,z,z,Ah⟩<|⟨v1,x1,x2,z,z,(Am _ _),hC27,hnb1⟩
    rintro l6 _ w14 hs6 ⟨v7,x19,x20,rfl,rfl,hB12,hC24,hnb6⟩
    try dsimp only at hL1
    refine AJ<|AO hs6<|?_
    clear hs6
    exact AX<|Be z z z<|Af z z<|Ab<|An (l':=[(0,(I a1)),(1,(.func (.func 85) #[] #[(ptr pb1 0),(ptr pb2 0),(ptr pb3 0)])),(6,v7),(11,(I (shl 1 a1))),(12,(I (w64 (x3+1))))]) ⟨z,z,z,z,z,Ah⟩<|⟨k1,Az _,v7,x19,x20,w64 (x3+1),z,hC24,hnb6,hL1⟩
   replace hL1:=AA hL1 hc1
   refine Bm (A2 (A2 (AT ?_)))
   obtain rfl:=Aa hL1
   exact An (l':=[(6,v1)]) ⟨z,Ah⟩<|⟨v1,x1,x2,z,z,hC1,hnb1⟩
 rintro l7 _ w15 hs7 ⟨v2,x4,x5,rfl,rfl,hC29,hnb2⟩
 try dsimp only at hF
 refine AO hs7 ?_
 clear hs7
 refine Ac<|Af z z<|Af z z<|WL_nil_neq Ag hnb2 z z<|Ae z z<|Ae z z<|Ab<|AC<|?_
 obtain rfl:=Aa hF
 refine Dx z z z ?_
 have hC30:=hC29.triv (BU ((!x5)))
 have hC31:=hC30.f1
 exact ⟨_,z,res2_of hC31⟩
theorem c_M_removals {w0:World} (a1:(List Int)) (u1:Value) (g1:RO [] w0 u1 a1) (a2:(List (Int × (List Int) × Int × Int × Int))) (u2:Value) (g2:RO [] w0 u2 a2) (a3:(List ((Int × (List Int)) × (List (Int × (List Int)))))) (u3:Value) (g3:RO [] w0 u3 a3) (rr:((List (List Int)) × Bool)) (hF:M.removals a1 a2 a3=some rr) :
 Calls Tryz.prog 46 [u1,u2,u3].toArray w0 fun e w'=>∃v,e=.returned v∧Res2 w0 rr.1 rr.2 v w':=by
 refine Aw Tryz.func46 z z ?_
 have hC0:=A1 w0
 unfold M.removals at hF
 refine Ac<|Bb (cs:=[u1]) hC0 (ro_cells g1) z z fun b1 w1 hC1 hB1 hN1=>Bb (cs:=[u2]) hC1 (ro_cells g2) z z fun b2 w2 hC2 hB2 hN2=>Bb (cs:=[u3]) hC2 (ro_cells g3) z z fun b3 w3 hC3 hB3 hN3=>Ae z z<|Ae z z<|Ab<|A0<|be hF fun r1 hr1 hF=>BH (fun l w=>∃x1:Bool,x1=r1∧l=[(3,(ptr b1 0)),(4,(ptr b2 0)),(5,(ptr b3 0)),(23,(.bool x1))]∧Below w3.heap.size w3 w∧Ctx [] w0 w [Ai b3 [u3],Ai b2 [u2],Ai b1 [u1]]) ?_ ?_
 ·refine AX<|Al hC3 2 z z At z z<|Al hC3 1 z z Da z z<|be hr1 fun x2 hr2 hr1=>cb Tryz.call56 z z (c_M_AreMethods a1 u1 (g1.now hC3.keep) a2 u2 (g2.now hC3.keep) x2 hr2) fun w5 hB5=>have hC5:=hC3.grow hB5;Bw z z<|Af z z<|Bz (fun hc1=>?_) (fun hc1=>?_)
  ·replace hr1:=A9 hr1 hc1
   refine gs z z z z<|gs z z z z<|gs z z z z<|Ba z z z<|Ab<|?_
   obtain rfl:=Aa hr1
   exact An (l':=[(3,(ptr b1 0)),(4,(ptr b2 0)),(5,(ptr b3 0)),(23,(.bool true))]) ⟨z,z,z,z,Ah⟩<|⟨true,z,z,(Ap hB5).below,hC5⟩
  replace hr1:=AA hr1 hc1
  refine Ak z z<|Al hC5 0 z z C5 z z<|Ak z z<|AL AR g3 z z<|Ak z z<|C1 z z z<|AY z z z<|Ab<|?_
  obtain rfl:=Aa hr1
  exact An (l':=[(3,(ptr b1 0)),(4,(ptr b2 0)),(5,(ptr b3 0)),(23,(.bool (decide (8 < (List.length a3:Int)))))]) ⟨z,z,z,z,Ah⟩<|⟨(decide (8 < (List.length a3:Int))),z,z,(Ap hB5).below,hC5⟩
 rintro _ w4 ⟨x1,rfl,rfl,hB4,hC4⟩
 try dsimp only at hF
 refine A7 z (fun hc2=>?_) (fun hc2=>?_)
 ·replace hF:=A9 hF hc2
  refine Ac<|Ae z z<|Ae z z<|Ab<|AC<|Ar<|?_
  obtain rfl:=Aa hF
  refine Dx z z z ?_
  have hC6:=hC4.triv (BU (false))
  have hC7:=hC6.triv (nil_val (α:=(List Int)))
  exact ⟨_,z,res2_of hC7⟩
 replace hF:=AA hF hc2
 refine A6<|Aj<|Ac<|BS z z<|Ae z z<|Ab<|Ac<|Al hC4 0 z z C5 z z<|AL AR g3 z z<|Af z z<|be hF fun x3 hr3 hF=>Bc Tryz.call86 z z (c_M_smallest_M_removals_c1 (List.length a3:Int) b1 a1 (hC4.boxAt 2 z (repw_slice (g1.now hC4.keep))) b2 a2 (hC4.boxAt 1 z (repw_slice (g2.now hC4.keep))) b3 a3 (hC4.boxAt 0 z (repw_slice (g3.now hC4.keep))) x3 hr3)<|?_
 rintro _ w6 ⟨hB6,v1,v2,F1,F2,rfl,hv2,hv3,hn1,hb1⟩
 obtain ⟨rfl,rfl⟩:=val_bool hv3
 have hC8:=hC4.pushL hB6 (Bs:=[Ad v1 x3.1]) (Fs:=[F1]) ⟨F1,_,z,hv2,z⟩ (by simpa using hn1) (fun b h=>hb1 b (by simpa using h))
 refine Af z z<|BJ z z z<|BJ z z z<|Ae z z<|Ae z z<|Ab<|A0<|Ac<|Af z z<|Bw z z<|Ab<|A7 z (fun hc3=>?_) (fun hc3=>?_)
 ·replace hF:=A9 hF hc3
  refine Ac<|Ae z z<|Ae z z<|Ab<|AC<|Ar<|?_
  obtain rfl:=Aa hF
  refine Dx z z z ?_
  have hC9:=hC8.triv (BU (false))
  have hC10:=hC9.triv (nil_val (α:=(List Int)))
  exact ⟨_,z,res2_of hC10⟩
 replace hF:=AA hF hc3
 refine A6<|Aj<|Ac<|A8 (vs:=[]) hC8 AG ty24 z z z z (by simp) z z fun b4 w7 hC11 hB7=>?_
 have hC12:=hC11.row0 (α:=(List Int))
 have hC13:=hC12.front 1 z
 dsimp only [List.eraseIdx,List.cons_append,List.nil_append,List.append_nil] at hC13
 have hC14:Ctx [] w0 w7 (Ad (.slice (some ⟨b4,0,none⟩) 0 0) (([]:List (List Int)):List (List Int))::[Ad v1 (x3.1:(List Int)),Ai b3 [u3],Ai b2 [u2],Ai b1 [u1]]):=hC13.rowOwn (by simp [maxLen])
 refine Ae z z<|Ab<|A0<|Ac<|Al hC14 2 z z C5 z z<|AL AR g3 z z<|be hF fun _ hx1 hF=>WL_shl (nn_some hx1) z z z<|Af z z<|Ab<|be hF fun r2 hr4 hF=>Bf (fun l w=>∃v4:Value,∃x6:(List (List Int)),x6=r2∧l=[(11,v4)]∧Ctx [] w0 w [Ad v4 (x6:(List (List Int)))]) ?_ ?_
 ·refine AB<|wS (l':=[(5,(ptr b3 0)),(8,(.func (.func 85) #[] #[(ptr b1 0),(ptr b2 0),(ptr b3 0)])),(9,v1),(11,(.slice (some ⟨b4,0,none⟩) 0 0)),(37,(I (shl 1 (List.length a3:Int)))),(38,(I 0))]) ⟨z,z,z,z,z,z,Ah⟩<|Bo (fun k l w=>∃v3:Value,∃x4:(List (List Int)),∃x5:Int,l=[(5,(ptr b3 0)),(8,(.func (.func 85) #[] #[(ptr b1 0),(ptr b2 0),(ptr b3 0)])),(9,v1),(11,v3),(37,(I (shl 1 (List.length a3:Int)))),(38,(I x5))]∧Ctx [] w0 w [Ad v3 (x4:(List (List Int))),Ad v1 (x3.1:(List Int)),Ai b3 [u3],Ai b2 [u2],Ai b1 [u1]]∧M.removals_l1 a3 x3 a1 a2 k x4 x5=some r2) FUEL ⟨(.slice (some ⟨b4,0,none⟩) 0 0),([]:List (List Int)),0,z,hC14,hr4⟩<|?_
  clear hr4
  rintro k1 _ w9 ⟨v3,x4,x5,rfl,hC15,hL1⟩
  cases k1 with
  | zero=>rw [M.removals_l1] at hL1; cases hL1
  | succ k1 =>
   rw [M.removals_l1] at hL1
   refine Ac<|AW z z z<|Ab<|A0<|A7 z (fun hc4=>?_) (fun hc4=>?_)
   ·replace hL1:=A9 hL1 hc4
    refine A6<|Aj<|A0<|AB<|Ac<|Af z z<|Ae z z<|Ab<|Ac<|A8 (vs:=[]) hC15 Ag ty3 z z z z (by simp) z z fun b5 w10 hC16 hB9=>?_
    have hC17:=hC16.row0 (α:=Int)
    have hC18:=hC17.front 1 z
    dsimp only [List.eraseIdx,List.cons_append,List.nil_append,List.append_nil] at hC18
    have hC19:Ctx [] w0 w10 (Ad (.slice (some ⟨b5,0,none⟩) 0 0) (([]:List Int):List Int)::[Ad v3 (x4:(List (List Int))),Ad v1 (x3.1:(List Int)),Ai b3 [u3],Ai b2 [u2],Ai b1 [u1]]):=hC18.rowOwn (by simp [maxLen])
    refine Ae z z<|Ab<|A0<|Ac<|Al hC19 3 z z C5 z z<|AL AR g3 z z<|Af z z<|Ab<|be hL1 fun r3 hr5 hL1=>Bf (fun l w=>∃v6:Value,∃x9:(List Int),x9=r3∧l=[(5,(ptr b3 0)),(8,(.func (.func 85) #[] #[(ptr b1 0),(ptr b2 0),(ptr b3 0)])),(9,v1),(11,v3),(13,v6),(37,(I (shl 1 (List.length a3:Int)))),(38,(I x5))]∧Ctx [] w0 w [Ad v6 (x9:(List Int)),Ad v3 (x4:(List (List Int))),Ad v1 (x3.1:(List Int)),Ai b3 [u3],Ai b2 [u2],Ai b1 [u1]]) ?_ ?_
    ·refine AB<|wS (l':=[(5,(ptr b3 0)),(8,(.func (.func 85) #[] #[(ptr b1 0),(ptr b2 0),(ptr b3 0)])),(9,v1),(11,v3),(12,(I x5)),(13,(.slice (some ⟨b5,0,none⟩) 0 0)),(37,(I (shl 1 (List.length a3:Int)))),(38,(I x5)),(43,(I (List.length a3:Int))),(44,(I 0))]) ⟨z,z,z,z,z,z,z,z,z,z,Ah⟩<|Bo (fun k l w=>∃v5:Value,∃x7:(List Int),∃x8:Int,l=[(5,(ptr b3 0)),(8,(.func (.func 85) #[] #[(ptr b1 0),(ptr b2 0),(ptr b3 0)])),(9,v1),(11,v3),(12,(I x5)),(13,v5),(37,(I (shl 1 (List.length a3:Int)))),(38,(I x5)),(43,(I (List.length a3:Int))),(44,(I x8))]∧Ctx [] w0 w [Ad v5 (x7:(List Int)),Ad v3 (x4:(List (List Int))),Ad v1 (x3.1:(List Int)),Ai b3 [u3],Ai b2 [u2],Ai b1 [u1]]∧M.removals_l2 a3 x5 k x7 x8=some r3) FUEL ⟨(.slice (some ⟨b5,0,none⟩) 0 0),([]:List Int),0,z,hC19,hr5⟩<|?_
     clear hr5
     rintro k2 _ w11 ⟨v5,x7,x8,rfl,hC20,hL2⟩
     cases k2 with
     | zero=>rw [M.removals_l2] at hL2; cases hL2
     | succ k2 =>
      rw [M.removals_l2] at hL2
      refine Ac<|AW z z z<|Ab<|A0<|A7 z (fun hc5=>?_) (fun hc5=>?_)
      ·replace hL2:=A9 hL2 hc5
       refine A6<|Aj<|A0<|AB<|Ac<|Af z z<|Ae z z<|Ab<|Ac<|Af z z<|Af z z<|be hL2 fun _ hx2 hL2=>WL_shr (nn_some hx2) z z z<|WL_band z z z<|Ca z z z<|Ab<|be hL2 fun r4 hr6 hL2=>Bf (fun l w=>∃v7:Value,∃x10:(List Int),x10=r4∧l=[(5,(ptr b3 0)),(8,(.func (.func 85) #[] #[(ptr b1 0),(ptr b2 0),(ptr b3 0)])),(9,v1),(11,v3),(12,(I x5)),(13,v7),(37,(I (shl 1 (List.length a3:Int)))),(38,(I x5)),(43,(I (List.length a3:Int))),(44,(I x8))]∧Ctx [] w0 w [Ad v7 (x10:(List Int)),Ad v3 (x4:(List (List Int))),Ad v1 (x3.1:(List Int)),Ai b3 [u3],Ai b2 [u2],Ai b1 [u1]]) ?_ ?_
       ·refine A7 z (fun hc6=>?_) (fun hc6=>?_)
        ·replace hr6:=A9 hr6 hc6
         refine AX<|Af z z<|Af z z<|A8 (vs:=[(I x8)]) hC20 Ag ty3 z z z z (fac z<|fa0) z z fun b6 w13 hC22 hB12=>?_
         have hC23:=hC22.row0 (α:=Int)
         have hC24:=hC23.triv (B2 (x8))
         have hC25:=hC24.row1
         have hC26:=hC25.front 1 z
         dsimp only [List.eraseIdx,List.cons_append,List.nil_append,List.append_nil] at hC26
         have hC27:Ctx [] w0 w13 (Ad (.slice (some ⟨b6,0,none⟩) 1 1) ([x8]:List Int)::[Ad v5 (x7:(List Int)),Ad v3 (x4:(List (List Int))),Ad v1 (x3.1:(List Int)),Ai b3 [u3],Ai b2 [u2],Ai b1 [u1]]):=hC26.rowOwn (by simp [maxLen])
         refine be hr6 fun x11 hx3 hr6=>Bt (α:=Int) hC27 1 z (hC27.ro 0 z) (AP _ _) Ag ty3 z hx3 z z z fun v8 w14 hC28=>?_
         try dsimp only [List.set] at hC28
         refine Ae z z<|Ab<|?_
         obtain rfl:=Aa hr6
         have hC29:=hC28.f6
         have hC30:=hC29.f6
         have hC31:=hC30.f6
         have hC32:=hC31.f6
         have hC33:=hC32.f6
         have hC34:=hC33.f6
         have hC35:=hC34.h6
         exact An (l':=[(5,(ptr b3 0)),(8,(.func (.func 85) #[] #[(ptr b1 0),(ptr b2 0),(ptr b3 0)])),(9,v1),(11,v3),(12,(I x5)),(13,v8),(37,(I (shl 1 (List.length a3:Int)))),(38,(I x5)),(43,(I (List.length a3:Int))),(44,(I x8))]) ⟨z,z,z,z,z,z,z,z,z,z,Ah⟩<|⟨v8,x11,z,z,hC35⟩
        replace hr6:=AA hr6 hc6
        refine A6 ?_
        obtain rfl:=Aa hr6
        exact An (l':=[(5,(ptr b3 0)),(8,(.func (.func 85) #[] #[(ptr b1 0),(ptr b2 0),(ptr b3 0)])),(9,v1),(11,v3),(12,(I x5)),(13,v5),(37,(I (shl 1 (List.length a3:Int)))),(38,(I x5)),(43,(I (List.length a3:Int))),(44,(I x8))]) ⟨z,z,z,z,z,z,z,z,z,z,Ah⟩<|⟨v5,x7,z,z,hC20⟩
       rintro l4 _ w12 hs4 ⟨v7,x10,rfl,rfl,hC21⟩
       try dsimp only at hL2
       refine AJ<|AO hs4<|?_
       clear hs4
       exact AX<|Be z z z<|Af z z<|Ab<|An (l':=[(5,(ptr b3 0)),(8,(.func (.func 85) #[] #[(ptr b1 0),(ptr b2 0),(ptr b3 0)])),(9,v1),(11,v3),(12,(I x5)),(13,v7),(37,(I (shl 1 (List.length a3:Int)))),(38,(I x5)),(43,(I (List.length a3:Int))),(44,(I (w64 (x8+1))))]) ⟨z,z,z,z,z,z,z,z,z,z,Ah⟩<|⟨k2,Az _,v7,x10,w64 (x8+1),z,hC21,hL2⟩
      replace hL2:=AA hL2 hc5
      refine Bm (A2 (A2 (AT ?_)))
      obtain rfl:=Aa hL2
      exact An (l':=[(5,(ptr b3 0)),(8,(.func (.func 85) #[] #[(ptr b1 0),(ptr b2 0),(ptr b3 0)])),(9,v1),(11,v3),(13,v5),(37,(I (shl 1 (List.length a3:Int)))),(38,(I x5))]) ⟨z,z,z,z,z,z,z,Ah⟩<|⟨v5,x7,z,z,hC20⟩
    rintro l5 _ w15 hs5 ⟨v6,x9,rfl,rfl,hC36⟩
    try dsimp only at hL1
    refine AO hs5 ?_
    clear hs5
    refine be hL1 fun r5 hr7 hL1=>BH (fun l w=>∃x12:Bool,x12=r5∧l=[(5,(ptr b3 0)),(8,(.func (.func 85) #[] #[(ptr b1 0),(ptr b2 0),(ptr b3 0)])),(9,v1),(11,v3),(13,v6),(37,(I (shl 1 (List.length a3:Int)))),(38,(I x5)),(66,(.bool x12))]∧Below w15.heap.size w15 w∧Ctx [] w0 w [Ad v6 (x9:(List Int)),Ad v3 (x4:(List (List Int))),Ad v1 (x3.1:(List Int)),Ai b3 [u3],Ai b2 [u2],Ai b1 [u1]]) ?_ ?_
    ·refine AX<|Af z z<|AL Ag (hC36.ro 0 z) z z<|Af z z<|AL Ag (hC36.ro 2 z) z z<|Ca z z z<|Af z z<|Bz (fun hc7=>?_) (fun hc7=>?_)
     ·replace hr7:=A9 hr7 hc7
      refine Ak z z<|Af z z<|Ak z z<|Af z z<|be hr7 fun x13 hr8 hr7=>Ak z z<|BQ (cap:=[(ptr b1 0),(ptr b2 0),(ptr b3 0)]) Dl z z z (c_M_removals_c1 x9 v6 ((hC36.ro 0 z).now (AP _ _)) b1 a1 (hC36.boxAt 5 z (repw_slice (g1.now hC36.keep))) b2 a2 (hC36.boxAt 4 z (repw_slice (g2.now hC36.keep))) b3 a3 (hC36.boxAt 3 z (repw_slice (g3.now hC36.keep))) x13 hr8) fun _ w17 hv4=>?_
      obtain ⟨rfl,hB15⟩:=BR hv4
      have hC38:=hC36.grow hB15
      refine Ba z z z<|Ab<|?_
      obtain rfl:=Aa hr7
      exact An (l':=[(5,(ptr b3 0)),(8,(.func (.func 85) #[] #[(ptr b1 0),(ptr b2 0),(ptr b3 0)])),(9,v1),(11,v3),(13,v6),(37,(I (shl 1 (List.length a3:Int)))),(38,(I x5)),(66,(.bool x13))]) ⟨z,z,z,z,z,z,z,z,Ah⟩<|⟨x13,z,z,(Ap hB15).below,hC38⟩
     replace hr7:=AA hr7 hc7
     refine gs z z z z<|gs z z z z<|gs z z z z<|AY z z z<|Ab<|?_
     obtain rfl:=Aa hr7
     exact An (l':=[(5,(ptr b3 0)),(8,(.func (.func 85) #[] #[(ptr b1 0),(ptr b2 0),(ptr b3 0)])),(9,v1),(11,v3),(13,v6),(37,(I (shl 1 (List.length a3:Int)))),(38,(I x5)),(66,(.bool false))]) ⟨z,z,z,z,z,z,z,z,Ah⟩<|⟨false,z,z,(Am _ _),hC36⟩
    rintro _ w16 ⟨x12,rfl,rfl,hB14,hC37⟩
    try dsimp only at hL1
    refine be hL1 fun r6 hr9 hL1=>Bf (fun l w=>∃v9:Value,∃x14:(List (List Int)),x14=r6∧l=[(5,(ptr b3 0)),(8,(.func (.func 85) #[] #[(ptr b1 0),(ptr b2 0),(ptr b3 0)])),(9,v1),(11,v9),(37,(I (shl 1 (List.length a3:Int)))),(38,(I x5))]∧Ctx [] w0 w [Ad v9 (x14:(List (List Int))),Ad v1 (x3.1:(List Int)),Ai b3 [u3],Ai b2 [u2],Ai b1 [u1]]) ?_ ?_
    ·refine A7 z (fun hc8=>?_) (fun hc8=>?_)
     ·replace hr9:=A9 hr9 hc8
      refine AX<|Af z z<|Af z z<|be hr9 fun x15 hr10 hr9=>have hC40:=hC37.f1;?_
      obtain ⟨Fs1,hH1,hn2,hF1,hO1,hb2⟩:=BO (As:=[Ad v6 (x9:(List Int)),Ad v1 (x3.1:(List Int)),Ai b3 [u3],Ai b2 [u2],Ai b1 [u1]]) [Ad v3 (x4:(List (List Int)))] hC40
      refine Bc Tryz.call87 z z (c_M_addedTuple x4 v3 x9 v6 (hO1 0 _ _ _ z) hH1 hn2 x15 hr10) ?_
      rintro v10 w19 ⟨_,rfl,hq10⟩
      have hC41:Ctx [] w0 w19 [Ad v10 (x15:(List (List Int))),Ad v6 (x9:(List Int)),Ad v1 (x3.1:(List Int)),Ai b3 [u3],Ai b2 [u2],Ai b1 [u1]]:=hb2 _ _ hq10
      refine Ae z z<|Ab<|?_
      obtain rfl:=Aa hr9
      have hC42:=hC41.f5
      have hC43:=hC42.f5
      have hC44:=hC43.f5
      have hC45:=hC44.f5
      have hC46:=hC45.f4
      have hC47:=hC46.h5
      exact An (l':=[(5,(ptr b3 0)),(8,(.func (.func 85) #[] #[(ptr b1 0),(ptr b2 0),(ptr b3 0)])),(9,v1),(11,v10),(37,(I (shl 1 (List.length a3:Int)))),(38,(I x5))]) ⟨z,z,z,z,z,z,Ah⟩<|⟨v10,x15,z,z,hC47⟩
     replace hr9:=AA hr9 hc8
     refine A6 ?_
     obtain rfl:=Aa hr9
     have hC48:=hC37.f5
     have hC49:=hC48.f5
     have hC50:=hC49.f5
     have hC51:=hC50.f5
     have hC52:=hC51.f5
     have hC53:=hC52.h5
     exact An (l':=[(5,(ptr b3 0)),(8,(.func (.func 85) #[] #[(ptr b1 0),(ptr b2 0),(ptr b3 0)])),(9,v1),(11,v3),(37,(I (shl 1 (List.length a3:Int)))),(38,(I x5))]) ⟨z,z,z,z,z,z,Ah⟩<|⟨v3,x4,z,z,hC53⟩
    rintro l7 _ w18 hs7 ⟨v9,x14,rfl,rfl,hC39⟩
    try dsimp only at hL1
    refine AJ<|AO hs7<|?_
    clear hs7
    exact AX<|Be z z z<|Af z z<|Ab<|An (l':=[(5,(ptr b3 0)),(8,(.func (.func 85) #[] #[(ptr b1 0),(ptr b2 0),(ptr b3 0)])),(9,v1),(11,v9),(37,(I (shl 1 (List.length a3:Int)))),(38,(I (w64 (x5+1))))]) ⟨z,z,z,z,z,z,Ah⟩<|⟨k1,Az _,v9,x14,w64 (x5+1),z,hC39,hL1⟩
   replace hL1:=AA hL1 hc4
   refine Bm (A2 (A2 (AT ?_)))
   obtain rfl:=Aa hL1
   have hC54:=hC15.h1
   exact An (l':=[(11,v3)]) ⟨z,Ah⟩<|⟨v3,x4,z,z,hC54⟩
 rintro l8 _ w20 hs8 ⟨v4,x6,rfl,rfl,hC55⟩
 try dsimp only at hF
 refine AO hs8 ?_
 clear hs8
 refine Ac<|Af z z<|Ae z z<|Ae z z<|Ab<|AC<|?_
 obtain rfl:=Aa hF
 refine Dx z z z ?_
 have hC56:=hC55.triv (BU (true))
 have hC57:=hC56.f1
 exact ⟨_,z,res2_of hC57⟩
theorem c_M_added_c1 {w0:World} (a1:(Int × (List Int))) (u1:Value) (g1:RO [] w0 u1 a1.2) (pb1:Nat) (ax1:(Int × (List Int))) (g2:ROAt [] w0 pb1 0 ax1) (rr:Bool) (hF:M.added_c1 a1 ax1=some rr) :
 Calls Tryz.prog 190 [(.agg #[(I a1.1),u1]),(ptr pb1 0)].toArray w0 fun e w'=>∃v,e=.returned v∧Res w0 rr v w':=by
 refine Aw Tryz.func190 z z ?_
 have hC0:=A1 w0
 unfold M.added_c1 at hF
 refine Ac<|Bb (cs:=[(I a1.1),u1]) hC0 z z z fun b1 w1 hC1 hB1 hN1=>Ae z z<|Ab<|Ac<|A4 [(I a1.1),u1] hC1 0 z z z B4 Br z z<|AH ty77 g2 hC1.keep z z fun v1 h1=>?_
 obtain ⟨v2,rfl,h2⟩:=BM h1
 refine be hF fun x1 hr1 hF=>ci Tryz.call147 z z (c_M_CompareFacts (a1.1,a1.2) u1 (g1.now hC1.keep) ax1 v2 (h2.now hC1.keep) x1 hr1) fun w2 hB2=>have hC2:=hC1.grow hB2;C1 z z z<|Ae z z<|Ab<|AC<|?_
 obtain rfl:=Aa hF
 exact Ay z z<|⟨_,z,AD hC2 _⟩
theorem c_Slices_Insert_Limpl_Fact_impl_Fact {Fs:List (List Nat)} {w0:World} (a1:(List (Int × (List Int)))) (u1:Value) (a2:Int) (a3:(List (Int × (List Int)))) (u2:Value) (hH:Hold [Ad u1 (a1:(List (Int × (List Int)))),Ad u2 (a3:(List (Int × (List Int))))] w0 Fs) (hn:Fs.flatten.Nodup) (rr:(List (Int × (List Int)))) (hF:Slices.Insert_Limpl_Fact_impl_Fact a1 a2 a3=some rr) :
 Calls Tryz.prog 191 [u1,(I a2),u2].toArray w0 fun e w'=>∃v,e=.returned v∧∃q0:Value,v=q0∧Ctx Fs.flatten w0 w' [Ad q0 (rr:(List (Int × (List Int))))]:=by
 refine Aw Tryz.func191 z z ?_
 have hC0:=BV hH hn
 unfold Slices.Insert_Limpl_Fact_impl_Fact at hF
 obtain ⟨m,rfl,hm,hb1,hlim,rfl⟩:=ins_some hF
 have hsub:sub a1 (m:Int) (a1.length:Int)=some (a1.drop m):=by unfold sub; rw [if_pos (by omega)]; simp
 have hb1':(a3.length:Int)=1:=by omega
 have hlim':a1.length+1 ≤ 4294967296:=by rw [LIM_eq] at hlim; exact hlim
 have hw1:w64 ((a1.length:Int)+1)=((a1.length+1:Nat):Int):=by rw [w64_id (by omega) (by omega)]; omega
 have hw2:w64 (((a1.length+1:Nat):Int) - (m:Int))=((a1.length+1 - m:Nat):Int):=by rw [w64_id (by omega) (by omega)]; omega
 have hw3:w64 ((m:Int)+1)=((m+1:Nat):Int):=by rw [w64_id (by omega) (by omega)]; omega
 refine Ac<|Ae z z<|Ab<|Ac<|Af z z<|Af z z<|WL_slice_l Ao ty77 (hC0.ro 0 z) hsub z z z fun v1 h1=>Ab<|Ac<|Af z z<|AL Ao (hC0.ro 1 z) z z<|?_
 rw [hb1']
 refine Ae z z<|Ab<|A0<|Ac<|Af z z<|Ca z z z<|Ab<|CB z<|A6<|Aj<|Ac<|Af z z<|AL Ao (hC0.ro 0 z) z z<|Ae z z<|Ab<|A0<|Ac<|Af z z<|Af z z<|Ca z z z<|?_
 by_cases hi:m=a1.length
 ·have e1:a1.take m ++ a3 ++ a1.drop m=a1 ++ a3:=by rw [List.take_of_length_le (by omega),List.drop_of_length_le (by omega),List.append_nil]
  rw [e1,decide_eq_true (show (m:Int)=(a1.length:Int) by omega)]
  refine Ab<|CA z<|Ac<|Af z z<|Af z z<|?_
  have happ:app a1 a3=some (a1 ++ a3):=by unfold app; rw [if_pos (by omega)]
  exact BA hC0.swap 0 z Ao ty77 z happ z z z fun v2 w2 hC2=>Ae z z<|Ab<|AC<|Ar<|Ay z z<|⟨_,z,_,z,hC2⟩
 rw [decide_eq_false (show ¬ (m:Int)=(a1.length:Int) by omega)]
 refine Ab<|CB z<|A6<|Aj<|?_
 have hml:m < a1.length:=by omega
 obtain ⟨b,c,row,T,cells,Fe,vb,vc,vrow,vT,vcells,Ge,rfl,rfl,h4,g4,h5,g5,h6,g6,h8,g8,h10,h11,h12,h13,h14,h15,hK⟩:=hC0.ins_raw (by intro e; rw [e] at hml; simp at hml) (by intro e; rw [e] at hb1; simp at hb1)
 have hcl:=elems_len h5
 have hvl:=elems_len g5
 rw [hb1] at hvl
 have hyl:(cells.drop (m * Rep.sz (Int × (List Int)))).length=(a1.length - m) * Rep.sz (Int × (List Int)):=by rw [List.length_drop,hcl,Nat.sub_mul]
 have hvr:(vrow.toList.drop 0).take (1 * Rep.sz (Int × (List Int)))=vcells:=by rw [List.drop_zero,← g6,hb1]
 have hv1:=elems_one g5
 have hy1:∀ u ∈ cells.drop (m * Rep.sz (Int × (List Int))),u.oneCell'=true:=fun u hu=>elems_one h5 u (List.mem_of_mem_drop hu)
 refine A0<|Ac<|Af z z<|Af z z<|Be z z z<|?_
 rw [hw1]
 refine Af z z<|WL_cap Ao z z<|C1 z z z<|?_
 by_cases hr:c < a1.length+1
 ·rw [decide_eq_true (show (c:Int) < ((a1.length+1:Nat):Int) by omega)]
  refine Ab<|CA z<|Ac<|Af z z<|Af z z<|WL_sl_h Ao ty77 (show m ≤ c by omega) (by omega) z z z<|Af z z<|Af z z<|Be z z z<|?_
  rw [hw1]
  refine Af z z<|Cv z z z<|?_
  rw [hw2]
  refine WL_zeros Ao ty77 z Tryz.underlying3 h4 (take_cells h6 hm) (by rw [List.length_take,hcl,Nat.min_eq_left (Nat.mul_le_mul_right _ hm)]) (show 0 < a1.length+1 - m by omega) (by omega) (by rw [LIM_eq]; omega) z z z (fun c' row' k1 k2 k3 k4=>?_)
  rw [show m+(a1.length+1 - m)=a1.length+1 by omega] at k3 ⊢
  obtain ⟨q1,q2,q3⟩:=row_grow (row':=row') hm hcl hvl k1 k2 k3
  obtain ⟨w1,hw1e⟩:∃w1,w1=w0.drew.alloc (.cells row' 77):=⟨_,z⟩
  have hA1:w1.heap[w0.heap.size]?=some (.cells row' 77 (0,0)):=by rw [hw1e]; exact heap_alloc_new w0.drew _
  have hB1:Below w0.heap.size w0 w1:=by rw [hw1e]; exact below_new w0 _
  rw [← hw1e]
  refine Ae z z<|Ab<|Ac<|Af z z<|Af z z<|Cw Ao ty77 (show m < c' by omega) (show m ≤ a1.length+1 by omega) k3 z z z<|Af z z<|Dc (m:=1) Ao ty77 hA1 ((hB1.block vb (heap_lt g4)).trans g4) (by show Dd a3.length (a1.length+1 - m)=1; rw [hb1]; exact Nat.min_eq_left (by omega)) hvr hvl hv1 (by rw [hvl,k2,Nat.zero_add,← Nat.add_mul]; exact Nat.mul_le_mul_right _ (by omega)) z z z<|?_
  generalize hr1:(row'.toList.take (0+m * Rep.sz (Int × (List Int))) ++ vcells ++ row'.toList.drop (0+m * Rep.sz (Int × (List Int))+vcells.length)).toArray=r1 at q1 q2 q3 ⊢
  have hA2:(w1.setRow w0.heap.size r1).heap[w0.heap.size]?=some (.cells r1 77 (0,0)):=setRow_heap _ _ _ _ _ _ hA1
  have hB2:Below w0.heap.size w0 (w1.setRow w0.heap.size r1):=below_row hB1 (Dk _)
  refine Ab<|A0<|W_drawn 9 z hmix fun w3 hB3=>tk 0 z z (Cb z)<|Af z z<|Ab<|tk 1 z z (Cb z)<|Af z z<|Ab<|tk 2 z z (Cb z)<|Af z z<|Ab<|tk 3 z z (fl_add z z)<|Be z z z<|?_
  rw [hw3]
  refine Ab<|tk 4 z z (De Ao ty77 (show m+1 < c' by omega) (show m+1 ≤ a1.length+1 by omega) k3 z z)<|Cw Ao ty77 (show m+1 < c' by omega) (show m+1 ≤ a1.length+1 by omega) k3 z z z<|Ab<|tk 5 z z (Cb z)<|Af z z<|Ab<|tk 6 z z (Cb z)<|Af z z<|Ab<|tk 7 z z (De Ao ty77 (show m < c by omega) hm h10 z z)<|Cw Ao ty77 (show m < c by omega) hm h10 z z z<|Ab<|?_
  have hA3:w3.heap[w0.heap.size]?=some (.cells r1 77 (0,0)):=(hB3.block _ (heap_lt hA2)).trans hA2
  have hB30:Below w0.heap.size w0 w3:=hB2.trans ⟨hB3.os,hB3.tape,hB3.output,hB3.size,fun k hk=>hB3.block k (Nat.lt_of_lt_of_le hk hB2.size)⟩
  refine oe 8 z<|Dc (m:=a1.length - m) Ao ty77 hA3 ((hB30.block b (heap_lt h4)).trans h4) (by show Dd (a1.length - m) (a1.length+1 - (m+1))=a1.length - m; rw [show a1.length+1 - (m+1)=a1.length - m by omega]; exact Nat.min_self _) (drop_cells h6) hyl hy1 (by rw [hyl,q3,Nat.zero_add,← Nat.add_mul]; exact Nat.mul_le_mul_right _ (by omega)) z z z<|?_
  generalize hr2:(r1.toList.take (0+(m+1) * Rep.sz (Int × (List Int))) ++ cells.drop (m * Rep.sz (Int × (List Int))) ++ r1.toList.drop (0+(m+1) * Rep.sz (Int × (List Int))+(cells.drop (m * Rep.sz (Int × (List Int)))).length)).toArray=r2 at q1 q2 ⊢
  refine Ab<|dn<|Aj<|Ac<|Af z z<|Ae z z<|Ab<|AC<|Ar<|Ay z z<|?_
  have hB4:Below w0.heap.size w0 (w3.setRow w0.heap.size r2):=below_row hB30 (Dk _)
  have hin:∀ k ∈ Fe ++ Ge,k < w0.heap.size:=fun k hk=>(List.mem_append.1 hk).elim (elems_inh h5 k) (elems_inh g5 k)
  obtain ⟨F',e1,e2,e3⟩:=ins_val (w':=w3.setRow w0.heap.size r2) h5 g5 h14 hm hb1 (g:=w0.heap.size) (fun h=>absurd (hin _ h) (Nat.lt_irrefl _)) (setRow_heap _ _ _ _ _ _ hA3) (fun k hk=>hB4.block k (hin k hk)) q1 q2 k3 k4
  exact ⟨_,z,_,z,hK _ _ _ F' ⟨hB4.os,hB4.tape,hB4.output,hB4.size,fun k hk _=>hB4.block k hk⟩ e1 e2 (fun k hk=>(e3 k hk).elim (fun h=>.inr (.inr (Nat.le_of_eq h.symm))) (fun h=>.inr (.inl h)))⟩
 rw [decide_eq_false (show ¬ (c:Int) < ((a1.length+1:Nat):Int) by omega)]
 refine Ab<|CB z<|A6<|Aj<|?_
 have k3:a1.length+1 ≤ c:=by omega
 obtain ⟨q1,q2,q3⟩:=row_shift hm hcl hvl h6 h8 k3
 refine Ac<|Af z z<|Af z z<|Af z z<|Be z z z<|?_
 rw [hw1]
 refine WL_sl_h Ao ty77 k3 (by omega) z z z<|Ae z z<|Ab<|A0<|Ac<|Af z z<|Af z z<|Af z z<|Af z z<|Be z z z<|?_
 rw [hw3]
 refine Cw Ao ty77 (show m+1 < c by omega) (show m+1 ≤ a1.length+1 by omega) k3 z z z<|WL_apart (R:=4) (run_callFunc_extern Tryz.func217 (by kernel_rfl) (by kernel_rfl) (by kernel_rfl) (by kernel_rfl)) Ao ty77 h13 h4 g4 (by rw [h8]; exact Nat.ne_of_gt (Nat.mul_pos (by omega) (by decide))) z z z<|Bw z z<|Ab<|CA z<|A0<|W_drawn 9 z hmix fun w3 hB3=>tk 0 z z (Cb z)<|Af z z<|Ab<|tk 1 z z (Cb z)<|Af z z<|Ab<|tk 2 z z (Cb z)<|Af z z<|Ab<|tk 3 z z (fl_add z z)<|Be z z z<|?_
 rw [hw3]
 refine Ab<|tk 4 z z (De Ao ty77 (show m+1 < c by omega) (show m+1 ≤ a1.length+1 by omega) k3 z z)<|Cw Ao ty77 (show m+1 < c by omega) (show m+1 ≤ a1.length+1 by omega) k3 z z z<|Ab<|tk 5 z z (Cb z)<|Af z z<|Ab<|tk 6 z z (Cb z)<|Af z z<|Ab<|tk 7 z z (De Ao ty77 (show m < c by omega) (show m ≤ a1.length+1 by omega) k3 z z)<|Cw Ao ty77 (show m < c by omega) (show m ≤ a1.length+1 by omega) k3 z z z<|Ab<|?_
 have hA3:w3.heap[b]?=some (.cells row T (0,0)):=(hB3.block _ (heap_lt h4)).trans h4
 refine oe 8 z<|Dc (m:=a1.length - m) Ao ty77 hA3 hA3 (by show Dd (a1.length+1 - m) (a1.length+1 - (m+1))=a1.length - m; rw [show a1.length+1 - (m+1)=a1.length - m by omega]; exact Nat.min_eq_right (by omega)) (drop_cells h6) hyl hy1 (by rw [hyl,h8,Nat.zero_add,← Nat.add_mul]; exact Nat.mul_le_mul_right _ (by omega)) z z z<|?_
 generalize hr1:(row.toList.take (0+(m+1) * Rep.sz (Int × (List Int))) ++ cells.drop (m * Rep.sz (Int × (List Int))) ++ row.toList.drop (0+(m+1) * Rep.sz (Int × (List Int))+(cells.drop (m * Rep.sz (Int × (List Int)))).length)).toArray=r1 at q1 q2 q3 ⊢
 have hA4:(w3.setRow b r1).heap[b]?=some (.cells r1 T (0,0)):=setRow_heap _ _ _ _ _ _ hA3
 have g43:(w3.setRow b r1).heap[vb]?=some (.cells vrow vT (0,0)):=(setRow_other _ _ _ _ h13).trans ((hB3.block _ (heap_lt g4)).trans g4)
 refine Ab<|dn<|Aj<|Ac<|Af z z<|Af z z<|Cw Ao ty77 (show m < c by omega) (show m ≤ a1.length+1 by omega) k3 z z z<|Af z z<|Dc (m:=1) Ao ty77 hA4 g43 (by show Dd a3.length (a1.length+1 - m)=1; rw [hb1]; exact Nat.min_eq_left (by omega)) hvr hvl hv1 (by rw [hvl,q3,Nat.zero_add,← Nat.add_mul]; exact Nat.mul_le_mul_right _ (by omega)) z z z<|?_
 generalize hr2:(r1.toList.take (0+m * Rep.sz (Int × (List Int))) ++ vcells ++ r1.toList.drop (0+m * Rep.sz (Int × (List Int))+vcells.length)).toArray=r2 at q1 q2 ⊢
 refine Ab<|Ac<|Af z z<|Ae z z<|Ab<|AC<|Ar<|Ay z z<|?_
 have hK4:Keep [b] w0 ((w3.setRow b r1).setRow b r2):=Keep.row (Keep.row ⟨hB3.os,hB3.tape,hB3.output,hB3.size,fun k hk _=>hB3.block k hk⟩)
 have hin:∀ k ∈ Fe ++ Ge,k < w0.heap.size:=fun k hk=>(List.mem_append.1 hk).elim (elems_inh h5 k) (elems_inh g5 k)
 obtain ⟨F',e1,e2,e3⟩:=ins_val (w':=(w3.setRow b r1).setRow b r2) h5 g5 h14 hm hb1 (g:=b) h15 (setRow_heap _ _ _ _ _ _ hA4) (fun k hk=>hK4.block k (hin k hk) (by simp only [List.mem_singleton]; intro e; exact h15 (e ▸ hk))) q1 q2 k3 h11
 exact ⟨_,z,_,z,hK _ _ _ F' hK4 e1 e2 (fun k hk=>(e3 k hk).elim .inl (fun h=>.inr (.inl h)))⟩
theorem c_Slices_IndexFunc_Limpl_Fact_impl_Fact_M_added_c1 {w0:World} (a1:(List (Int × (List Int)))) (u1:Value) (g1:RO [] w0 u1 a1) (pb1:Nat) (ax1:(Int × (List Int))) (g2:ROAt [] w0 pb1 0 ax1) (rr:Int) (hF:Slices.IndexFunc_Limpl_Fact_impl_Fact_M_added_c1 a1 ax1=some rr) :
 Calls Tryz.prog 189 [u1,(.func (.func 190) #[] #[(ptr pb1 0)])].toArray w0 fun e w'=>∃v,e=.returned v∧Res w0 rr v w':=by
 refine Aw CK z z ?_
 have hC0:=A1 w0
 unfold Slices.IndexFunc_Limpl_Fact_impl_Fact_M_added_c1 at hF
 refine Ac<|Ae z z<|Ab<|A0<|Ac<|Af z z<|AL Ao g1 z z<|Af z z<|Ab<|be hF fun r1 hr1 hF=>Bf (fun l w=>.inl ()=r1∧l=[]∧Below w0.heap.size w0 w∧Ctx [] w0 w []) ?_ ?_
 ·refine AB<|wS (l':=[(0,u1),(1,(.func (.func 190) #[] #[(ptr pb1 0)])),(7,(I (List.length a1:Int))),(8,(I 0))]) ⟨z,z,z,z,Ah⟩<|Bo (fun k l w=>∃x1:Int,l=[(0,u1),(1,(.func (.func 190) #[] #[(ptr pb1 0)])),(7,(I (List.length a1:Int))),(8,(I x1))]∧Below w0.heap.size w0 w∧Ctx [] w0 w []∧Slices.IndexFunc_Limpl_Fact_impl_Fact_M_added_c1_l1 a1 ax1 k x1=some r1) FUEL ⟨0,z,(Am _ _),hC0,hr1⟩<|?_
  clear hr1
  rintro k1 _ w1 ⟨x1,rfl,hB1,hC1,hL1⟩
  cases k1 with
  | zero=>rw [Slices.IndexFunc_Limpl_Fact_impl_Fact_M_added_c1_l1] at hL1; cases hL1
  | succ k1 =>
   rw [Slices.IndexFunc_Limpl_Fact_impl_Fact_M_added_c1_l1] at hL1
   refine Ac<|AW z z z<|Ab<|A0<|A7 z (fun hc1=>?_) (fun hc1=>?_)
   ·replace hL1:=A9 hL1 hc1
    refine A6<|Aj<|A0<|AB<|Ac<|Af z z<|Ae z z<|Ab<|Ac<|Af z z<|Af z z<|Af z z<|be hL1 fun x2 hx1 hL1=>AE Ao ty77 g1 hx1 z z z fun b1 o1 h1=>AH ty77 h1 hC1.keep z z fun v1 h2=>?_
    obtain ⟨v2,rfl,h3⟩:=BM h2
    refine be hL1 fun x3 hr2 hL1=>BQ (cap:=[(ptr pb1 0)]) Tryz.call190 z z z (c_M_added_c1 x2 v2 (h3.now hC1.keep) pb1 ax1 (g2.now hC1.keep) x3 hr2) fun _ w2 hv1=>?_
    obtain ⟨rfl,hB2⟩:=BR hv1
    have hC2:=hC1.grow hB2
    refine Ab<|A7 z (fun hc2=>?_) (fun hc2=>?_)
    ·replace hL1:=A9 hL1 hc2
     refine Ac<|Af z z<|Ae z z<|Ab<|AC<|AU<|Ar<|Ar<|AU<|Ar<|Ar<|?_
     obtain rfl:=Aa hL1
     dsimp only at hF
     obtain rfl:=Aa hF
     exact Ay z z<|⟨_,z,Bk hC2 _⟩
    replace hL1:=AA hL1 hc2
    exact A6<|AJ<|Aj<|AX<|Be z z z<|Af z z<|Ab<|An (l':=[(0,u1),(1,(.func (.func 190) #[] #[(ptr pb1 0)])),(7,(I (List.length a1:Int))),(8,(I (w64 (x1+1))))]) ⟨z,z,z,z,Ah⟩<|⟨k1,Az _,w64 (x1+1),z,((Ap hB1).then hB2).below,hC2,hL1⟩
   replace hL1:=AA hL1 hc1
   refine Bm (A2 (A2 (AT ?_)))
   obtain rfl:=Aa hL1
   exact An (l':=[]) Ah<|⟨z,z,(Ap hB1).below,hC1⟩
 rintro l2 _ w3 hs2 ⟨rfl,rfl,hB3,hC3⟩
 try dsimp only at hF
 refine AO hs2 ?_
 clear hs2
 refine Ac<|Ae z z<|Ab<|AC<|?_
 obtain rfl:=Aa hF
 exact Ay z z<|⟨_,z,Bk hC3 _⟩
theorem c_M_added {w0:World} {Fs:List (List Nat)} (a1:(List (Int × (List Int)))) (u1:Value) (a2:(Int × (List Int))) (u2:Value) (g2:RO Fs.flatten w0 u2 a2.2) (hH:Hold [Ad u1 (a1:(List (Int × (List Int))))] w0 Fs) (hn:Fs.flatten.Nodup) (rr:(List (Int × (List Int)))) (hF:M.added a1 a2=some rr) :
 Calls Tryz.prog 144 [u1,(.agg #[(I a2.1),u2])].toArray w0 fun e w'=>∃v,e=.returned v∧∃q0:Value,v=q0∧Ctx Fs.flatten w0 w' [Ad q0 (rr:(List (Int × (List Int))))]:=by
 refine Aw Tryz.func144 z z ?_
 have hC0:=BV hH hn
 unfold M.added at hF
 refine Ac<|Bb (cs:=[(I a2.1),u2]) hC0 z z z fun b1 w1 hC1 hB1 hN1=>Ae z z<|Ab<|A0<|Ac<|Af z z<|A4 [(I a2.1),u2] hC1 0 z z z B4 Br z z<|be hF fun x1 hr1 hF=>cb Tryz.call93 z z (c_M_HasFact a1 u1 ((hC1.ro 1 z).now (AP _ _)) (a2.1,a2.2) u2 (g2.now hC1.keep) x1 hr1) fun w2 hB2=>have hC2:=hC1.grow hB2;Ab<|A7 z (fun hc1=>?_) (fun hc1=>?_)
 ·replace hF:=A9 hF hc1
  refine Ac<|Af z z<|Ae z z<|Ab<|AC<|Ar<|?_
  obtain rfl:=Aa hF
  exact Ay z z<|have hC3:=hC2.f1;have hC4:=hC3.h1;⟨_,z,_,z,hC4⟩
 replace hF:=AA hF hc1
 refine A6<|Aj<|Ac<|Af z z<|BS z z<|be hF fun x2 hr2 hF=>ci CL z z (c_Slices_IndexFunc_Limpl_Fact_impl_Fact_M_added_c1 a1 u1 ((hC2.ro 1 z).now (AP _ _)) b1 (a2.1,a2.2) (hC2.boxAt 0 z (repw_pair repw_int (repw_slice (g2.now hC2.keep)))) x2 hr2) fun w3 hB3=>have hC5:=hC2.grow hB3;Ae z z<|Ab<|A0<|Ac<|Af z z<|AW z z z<|Ab<|be hF fun r1 hr3 hF=>Bf (fun l w=>∃x3:Int,x3=r1∧l=[(0,u1),(3,(ptr b1 0)),(5,(I x3))]∧Below w3.heap.size w3 w∧Ctx Fs.flatten w0 w [Ai b1 [(I a2.1),u2],Ad u1 (a1:(List (Int × (List Int))))]) ?_ ?_
 ·refine A7 z (fun hc2=>?_) (fun hc2=>?_)
  ·replace hr3:=A9 hr3 hc2
   refine AX<|Af z z<|AL Ao (hC5.ro 1 z) z z<|Ae z z<|Ab<|?_
   obtain rfl:=Aa hr3
   exact An (l':=[(0,u1),(3,(ptr b1 0)),(5,(I (List.length a1:Int)))]) ⟨z,z,z,Ah⟩<|⟨(List.length a1:Int),z,z,(Am _ _),hC5⟩
  replace hr3:=AA hr3 hc2
  refine A6 ?_
  obtain rfl:=Aa hr3
  exact An (l':=[(0,u1),(3,(ptr b1 0)),(5,(I x2))]) ⟨z,z,z,Ah⟩<|⟨x2,z,z,(Am _ _),hC5⟩
 rintro l1 _ w4 hs1 ⟨x3,rfl,rfl,hB4,hC6⟩
 try dsimp only at hF
 refine AO hs1 ?_
 clear hs1
 refine Ac<|Af z z<|Af z z<|A4 [(I a2.1),u2] hC6 0 z z z B4 Br z z<|be hF fun x4 hr4 hF=>Bc Tryz.call158 z z (c_M_copyFact (a2.1,a2.2) u2 (g2.now hC6.keep) x4 hr4)<|?_
 rintro v1 w5 ⟨hB5,F1,hv3,hn1,hb1⟩
 have hC7:=hC6.push hB5 (A:=Ad v1 x4) hv3 hn1 hb1
 obtain ⟨v2,rfl,hC8⟩:=st77_own hC7
 refine A8 (vs:=[(.agg #[(I x4.1),v2])]) hC8 Ao ty77 z z z z (fac z<|fa0) z z (fun b2 w6 hC9 hB6=>?_)
 have hC10:=hC9.row0 (α:=(Int × (List Int)))
 have hC12:=hC10.f2
 have hC11:=Cm x4.1 v2 x4.2 hC12
 have hC13:=hC11.row1
 have hC14:=hC13.front 1 z
 dsimp only [List.eraseIdx,List.cons_append,List.nil_append,List.append_nil] at hC14
 have hC15:Ctx Fs.flatten w0 w6 (Ad (.slice (some ⟨b2,0,none⟩) 1 1) ([(x4.1,x4.2)]:List (Int × (List Int)))::[Ai b1 [(I a2.1),u2],Ad u1 (a1:(List (Int × (List Int))))]):=hC14.rowOwn (by simp [maxLen])
 refine be hF fun x5 hr5 hF=>have hC17:=hC15.f2;?_
 obtain ⟨Fs1,hH1,hn2,hF1,hO1,hb2⟩:=BO (As:=[Ai b1 [(I a2.1),u2]]) [Ad u1 (a1:(List (Int × (List Int)))),Ad (.slice (some ⟨b2,0,none⟩) 1 1) ([(x4.1,x4.2)]:(List (Int × (List Int))))] hC17
 refine Bc Tryz.call191 z z (c_Slices_Insert_Limpl_Fact_impl_Fact a1 u1 x3 ([(x4.1,x4.2)]) (.slice (some ⟨b2,0,none⟩) 1 1) hH1 hn2 x5 hr5) ?_
 rintro v3 w7 ⟨_,rfl,hq4⟩
 have hC18:Ctx Fs.flatten w0 w7 [Ad v3 (x5:(List (Int × (List Int)))),Ai b1 [(I a2.1),u2]]:=hb2 _ _ hq4
 refine Ae z z<|Ab<|AC<|?_
 obtain rfl:=Aa hF
 exact Ay z z<|have hC20:=hC18.h1;⟨_,z,_,z,hC20⟩
theorem c_M_UnionOf {w0:World} (a1:(List ((Int × (List Int)) × (List (Int × (List Int)))))) (u1:Value) (g1:RO [] w0 u1 a1) (rr:(List (Int × (List Int)))) (hF:M.UnionOf a1=some rr) :
 Calls Tryz.prog 90 [u1].toArray w0 fun e w'=>∃v,e=.returned v∧Res w0 rr v w':=by
 refine Aw Tryz.func90 z z ?_
 have hC0:=A1 w0
 unfold M.UnionOf at hF
 refine Ac<|Ae z z<|Ab<|Ac<|A8 (vs:=[]) hC0 Ao ty77 z z z z (by simp) z z fun b1 w1 hC1 hB1=>?_
 have hC2:=hC1.row0 (α:=(Int × (List Int)))
 have hC3:=hC2.front 1 z
 dsimp only [List.eraseIdx,List.cons_append,List.nil_append,List.append_nil] at hC3
 have hC4:Ctx [] w0 w1 (Ad (.slice (some ⟨b1,0,none⟩) 0 0) (([]:List (Int × (List Int))):List (Int × (List Int)))::[]):=hC3.rowOwn (by simp [maxLen])
 refine Ae z z<|Ab<|A0<|Ac<|Af z z<|AL AR g1 z z<|Af z z<|Ab<|be hF fun r1 hr1 hF=>Bf (fun l w=>∃v2:Value,∃x3:(List (Int × (List Int))),x3=r1∧l=[(3,v2)]∧Ctx [] w0 w [Ad v2 (x3:(List (Int × (List Int))))]) ?_ ?_
 ·refine AB<|wS (l':=[(3,(.slice (some ⟨b1,0,none⟩) 0 0)),(9,u1),(10,(I (List.length a1:Int))),(11,(I 0))]) ⟨z,z,z,z,Ah⟩<|Bo (fun k l w=>∃v1:Value,∃x1:(List (Int × (List Int))),∃x2:Int,l=[(3,v1),(9,u1),(10,(I (List.length a1:Int))),(11,(I x2))]∧Ctx [] w0 w [Ad v1 (x1:(List (Int × (List Int))))]∧M.UnionOf_l1 a1 k x1 x2=some r1) FUEL ⟨(.slice (some ⟨b1,0,none⟩) 0 0),([]:List (Int × (List Int))),0,z,hC4,hr1⟩<|?_
  clear hr1
  rintro k1 _ w2 ⟨v1,x1,x2,rfl,hC5,hL1⟩
  cases k1 with
  | zero=>rw [M.UnionOf_l1] at hL1; cases hL1
  | succ k1 =>
   rw [M.UnionOf_l1] at hL1
   refine Ac<|AW z z z<|Ab<|A0<|A7 z (fun hc1=>?_) (fun hc1=>?_)
   ·replace hL1:=A9 hL1 hc1
    refine A6<|Aj<|A0<|AB<|Ac<|be hL1 fun x4 hx1 hL1=>AE AR ty84 g1 hx1 z z z fun b2 o1 h1=>AH ty84 h1 hC5.keep z z fun v3 h2=>?_
    obtain ⟨v4,v5,rfl,h3,h4⟩:=C0 h2
    refine B0 hC5 zero84 z z fun b3 w3 hC6 hB3 hN1=>AS (cs':=[(I x4.1.1),v4,v5]) (new:=[(I x4.1.1),v4,v5]) hC6 0 z z (fac z<|fac (B1 h3)<|fac (B1 h4)<|fa0) z B3 z z fun w4 hC7 hKp1=>?_
    try dsimp only [List.set] at hC7
    have hk1:=AI (Ap hB3) hN1 hKp1
    refine Ab<|Ac<|fd AQ Bx z z z z<|Al hC7 0 z z B9 z z<|AL Ao h4 z z<|Af z z<|Ab<|be hL1 fun r2 hr2 hL1=>Bf (fun l w=>∃v7:Value,∃x7:(List (Int × (List Int))),x7=r2∧l=[(3,v7),(9,u1),(10,(I (List.length a1:Int))),(11,(I x2))]∧Ctx [] w0 w [Ad v7 (x7:(List (Int × (List Int))))]) ?_ ?_
    ·refine AB<|have hC14:=hC7.f1;have hC15:=hC14.h1;wS (l':=[(3,v1),(9,u1),(10,(I (List.length a1:Int))),(11,(I x2)),(16,v5),(17,(I (List.length x4.2:Int))),(18,(I 0))]) ⟨z,z,z,z,z,z,z,Ah⟩<|Bo (fun k l w=>∃v6:Value,∃x5:(List (Int × (List Int))),∃x6:Int,l=[(3,v6),(9,u1),(10,(I (List.length a1:Int))),(11,(I x2)),(16,v5),(17,(I (List.length x4.2:Int))),(18,(I x6))]∧Ctx [] w0 w [Ad v6 (x5:(List (Int × (List Int))))]∧M.UnionOf_l2 x4 k x5 x6=some r2) FUEL ⟨v1,x1,0,z,hC15,hr2⟩<|?_
     clear hr2
     rintro k2 _ w5 ⟨v6,x5,x6,rfl,hC8,hL2⟩
     cases k2 with
     | zero=>rw [M.UnionOf_l2] at hL2; cases hL2
     | succ k2 =>
      rw [M.UnionOf_l2] at hL2
      refine Ac<|AW z z z<|Ab<|A0<|A7 z (fun hc2=>?_) (fun hc2=>?_)
      ·replace hL2:=A9 hL2 hc2
       refine A6<|Aj<|A0<|AB<|Ac<|be hL2 fun x8 hx2 hL2=>AE Ao ty77 h4 hx2 z z z fun b4 o2 h5=>AH ty77 h5 hC8.keep z z fun v8 h6=>?_
       obtain ⟨v9,rfl,h7⟩:=BM h6
       refine B0 hC8 zero77 z z fun b5 w6 hC9 hB5 hN2=>AS (cs':=[(I x8.1),v9]) (new:=[(I x8.1),v9]) hC9 0 z z (fac z<|fac (B1 h7)<|fa0) z Br z z fun w7 hC10 hKp2=>?_
       try dsimp only [List.set] at hC10
       have hk2:=AI (Ap hB5) hN2 hKp2
       refine Ab<|AX<|Af z z<|A4 [(I x8.1),v9] hC10 0 z z z B4 Br z z<|be hL2 fun x9 hr3 hL2=>have hC11:=hC10.f1;?_
       obtain ⟨Fs1,hH1,hn1,hF1,hO1,hb1⟩:=BO (As:=[Ai b5 [(I x8.1),v9]]) [Ad v6 (x5:(List (Int × (List Int))))] hC11
       refine Bc Tryz.call144 z z (c_M_added x5 v6 (x8.1,x8.2) v9 (RO.lent h7 hC11.keep hF1) hH1 hn1 x9 hr3) ?_
       rintro v10 w9 ⟨_,rfl,hq1⟩
       have hC12:Ctx [] w0 w9 [Ad v10 (x9:(List (Int × (List Int)))),Ai b5 [(I x8.1),v9]]:=hb1 _ _ hq1
       exact Ae z z<|Ab<|AJ<|Aj<|AX<|Be z z z<|Af z z<|Ab<|have hC13:=hC12.h1;An (l':=[(3,v10),(9,u1),(10,(I (List.length a1:Int))),(11,(I x2)),(16,v5),(17,(I (List.length x4.2:Int))),(18,(I (w64 (x6+1))))]) ⟨z,z,z,z,z,z,z,Ah⟩<|⟨k2,Az _,v10,x9,w64 (x6+1),z,hC13,hL2⟩
      replace hL2:=AA hL2 hc2
      refine Bm (A2 (A2 (AT ?_)))
      obtain rfl:=Aa hL2
      exact An (l':=[(3,v6),(9,u1),(10,(I (List.length a1:Int))),(11,(I x2))]) ⟨z,z,z,z,Ah⟩<|⟨v6,x5,z,z,hC8⟩
    rintro l3 _ w10 hs3 ⟨v7,x7,rfl,rfl,hC16⟩
    try dsimp only at hL1
    refine AJ<|AO hs3<|?_
    clear hs3
    exact AX<|Be z z z<|Af z z<|Ab<|An (l':=[(3,v7),(9,u1),(10,(I (List.length a1:Int))),(11,(I (w64 (x2+1))))]) ⟨z,z,z,z,Ah⟩<|⟨k1,Az _,v7,x7,w64 (x2+1),z,hC16,hL1⟩
   replace hL1:=AA hL1 hc1
   refine Bm (A2 (A2 (AT ?_)))
   obtain rfl:=Aa hL1
   exact An (l':=[(3,v1)]) ⟨z,Ah⟩<|⟨v1,x1,z,z,hC5⟩
 rintro l4 _ w11 hs4 ⟨v2,x3,rfl,rfl,hC17⟩
 try dsimp only at hF
 refine AO hs4 ?_
 clear hs4
 refine Ac<|Af z z<|Ae z z<|Ab<|AC<|?_
 obtain rfl:=Aa hF
 exact Ay z z<|⟨_,z,B7 hC17 0 z⟩
theorem c_M_parted_c1 {w0:World} (a1:(List Int)) (u1:Value) (g1:RO [] w0 u1 a1) (pb1:Nat) (ax1:(List ((Int × (List Int)) × (List (Int × (List Int)))))) (g2:ROAt [] w0 pb1 0 ax1) (pb2:Nat) (ax2:(Int × (List Int))) (g3:ROAt [] w0 pb2 0 ax2) (rr:Bool) (hF:M.parted_c1 a1 ax1 ax2=some rr) :
 Calls Tryz.prog 92 [u1,(ptr pb1 0),(ptr pb2 0)].toArray w0 fun e w'=>∃v,e=.returned v∧Res w0 rr v w':=by
 refine Aw Tryz.func92 z z ?_
 have hC0:=A1 w0
 unfold M.parted_c1 at hF
 refine Ac<|Ae z z<|Ab<|A0<|W_drawn 8 z hmix fun w1 hB1=>have hC1:=hC0.grow hB1;tm 1 z z z<|be hF fun x1 hr1 hF=>be hF fun x2 hr2 hF=>wAS (l':=[(0,u1),(1,(ptr pb1 0)),(2,(ptr pb2 0)),(4,(.bool false)),(6,u1)]) ⟨z,z,z,z,z,Ah⟩<|Bq [⟨0,[],fun vs=>Cc [] w0 ax1,[]⟩,⟨2,[],fun vs=>BX x1,[]⟩,⟨3,[],fun vs=>BX x2,[]⟩,⟨4,[],fun vs=>Cc [] w0 ax2,[]⟩] [[],[0],[2],[]] 3 z (by kernel_rfl) (by kernel_rfl) z ?_ ?_
 ·refine Aq z ?_ ?_
  ·intro w4 hB4
   refine Ax<|⟨_,z,?_⟩
   exact AH ty26 g2 (hC1.keep.then hB4) z z fun v1 h1=>Ab<|A3 (Am _ _) z z ⟨z,h1⟩
  refine Aq z ?_ ?_
  ·intro w4 hB4
   refine AN z z z ?_
   rintro v1 _ ⟨rfl,h1⟩ _
   refine Ax<|⟨_,z,?_⟩
   refine Bc Tryz.call19 z z (c_M_Without ax1 v1 (h1.now (hC1.keep.then hB4)) a1 u1 (g1.now (hC1.keep.then hB4)) x1 hr1) ?_
   rintro v2 w2 ⟨hB2,F1,hv1,hn1,hb1⟩
   exact Ab<|BW hB2 z z hv1 hn1 hb1 (Val.inh hv1)
  refine Aq z ?_ ?_
  ·intro w4 hB4
   refine AN z z z fun v2 F1 hv1 _=>Ax<|⟨_,z,?_⟩
   refine Bc Tryz.call90 z z (c_M_UnionOf x1 v2 (CO hv1) x2 hr2) ?_
   rintro v3 w3 ⟨hB3,F2,hv2,hn2,hb2⟩
   exact Ab<|BW hB3 z z hv2 hn2 hb2 (Val.inh hv2)
  refine Aq z ?_ ?_
  ·intro w4 hB4
   refine Ax<|⟨_,z,?_⟩
   exact AH ty77 g3 (hC1.keep.then hB4) z z fun v6 h4=>Ab<|A3 (Am _ _) z z ⟨z,h4⟩
  exact Bl
 intro w5 hB5
 refine Av z z z ?_
 rintro v1 _ ⟨rfl,h1⟩
 refine Av z z z fun v2 F1 hv1=>Av z z z fun v3 F2 hv2=>Av z z z<|?_
 rintro v6 _ ⟨rfl,h4⟩
 obtain ⟨v5,rfl,h3⟩:=BM h4
 refine Bv ?_
 intro hn3 hb3
 have hC2:=hC1.pushL hB5 (Bs:=[Ad v3 (x2:(List (Int × (List Int)))),Ad v2 (x1:(List ((Int × (List Int)) × (List (Int × (List Int))))))]) (Fs:=[F2,F1]) ⟨F2,_,z,hv2,F1,_,z,hv1,z⟩ (by simpa using hn3) (fun b h=>(hb3 b (by simpa using h)).1)
 refine be hF fun x3 hr3 hF=>oe 5 z<|cb Tryz.call93 z z (c_M_HasFact x2 v3 ((hC2.ro 0 z).now (AP _ _)) ax2 v5 (h3.now hC2.keep) x3 hr3) fun w6 hB6=>have hC3:=hC2.grow hB6;Ab<|tk 6 z z (Cs z)<|Bw z z<|Ab<|ta 7 z z z<|dn<|Aj<|AC<|?_
 obtain rfl:=Aa hF
 exact Ay z z<|⟨_,z,AD hC3 _⟩
theorem c_Slices_IndexFunc_LLint_Lint_M_parted_c1 {w0:World} (a1:(List (List Int))) (u1:Value) (g1:RO [] w0 u1 a1) (pb1:Nat) (ax1:(List ((Int × (List Int)) × (List (Int × (List Int)))))) (g2:ROAt [] w0 pb1 0 ax1) (pb2:Nat) (ax2:(Int × (List Int))) (g3:ROAt [] w0 pb2 0 ax2) (rr:Int) (hF:Slices.IndexFunc_LLint_Lint_M_parted_c1 a1 ax1 ax2=some rr) :
 Calls Tryz.prog 140 [u1,(.func (.func 92) #[] #[(ptr pb1 0),(ptr pb2 0)])].toArray w0 fun e w'=>∃v,e=.returned v∧Res w0 rr v w':=by
 refine Aw Tryz.func140 z z ?_
 have hC0:=A1 w0
 unfold Slices.IndexFunc_LLint_Lint_M_parted_c1 at hF
 refine Ac<|Ae z z<|Ab<|A0<|Ac<|Af z z<|AL AG g1 z z<|Af z z<|Ab<|be hF fun r1 hr1 hF=>Bf (fun l w=>.inl ()=r1∧l=[]∧Below w0.heap.size w0 w∧Ctx [] w0 w []) ?_ ?_
 ·refine AB<|wS (l':=[(0,u1),(1,(.func (.func 92) #[] #[(ptr pb1 0),(ptr pb2 0)])),(7,(I (List.length a1:Int))),(8,(I 0))]) ⟨z,z,z,z,Ah⟩<|Bo (fun k l w=>∃x1:Int,l=[(0,u1),(1,(.func (.func 92) #[] #[(ptr pb1 0),(ptr pb2 0)])),(7,(I (List.length a1:Int))),(8,(I x1))]∧Below w0.heap.size w0 w∧Ctx [] w0 w []∧Slices.IndexFunc_LLint_Lint_M_parted_c1_l1 a1 ax1 ax2 k x1=some r1) FUEL ⟨0,z,(Am _ _),hC0,hr1⟩<|?_
  clear hr1
  rintro k1 _ w1 ⟨x1,rfl,hB1,hC1,hL1⟩
  cases k1 with
  | zero=>rw [Slices.IndexFunc_LLint_Lint_M_parted_c1_l1] at hL1; cases hL1
  | succ k1 =>
   rw [Slices.IndexFunc_LLint_Lint_M_parted_c1_l1] at hL1
   refine Ac<|AW z z z<|Ab<|A0<|A7 z (fun hc1=>?_) (fun hc1=>?_)
   ·replace hL1:=A9 hL1 hc1
    refine A6<|Aj<|A0<|AB<|Ac<|Af z z<|Ae z z<|Ab<|Ac<|Af z z<|Af z z<|Af z z<|be hL1 fun x2 hx1 hL1=>AE AG ty24 g1 hx1 z z z fun b1 o1 h1=>AH ty24 h1 hC1.keep z z fun v1 h2=>be hL1 fun x3 hr2 hL1=>BQ (cap:=[(ptr pb1 0),(ptr pb2 0)]) Tryz.call92 z z z (c_M_parted_c1 x2 v1 (h2.now hC1.keep) pb1 ax1 (g2.now hC1.keep) pb2 ax2 (g3.now hC1.keep) x3 hr2) fun _ w2 hv1=>?_
    obtain ⟨rfl,hB2⟩:=BR hv1
    have hC2:=hC1.grow hB2
    refine Ab<|A7 z (fun hc2=>?_) (fun hc2=>?_)
    ·replace hL1:=A9 hL1 hc2
     refine Ac<|Af z z<|Ae z z<|Ab<|AC<|AU<|Ar<|Ar<|AU<|Ar<|Ar<|?_
     obtain rfl:=Aa hL1
     dsimp only at hF
     obtain rfl:=Aa hF
     exact Ay z z<|⟨_,z,Bk hC2 _⟩
    replace hL1:=AA hL1 hc2
    exact A6<|AJ<|Aj<|AX<|Be z z z<|Af z z<|Ab<|An (l':=[(0,u1),(1,(.func (.func 92) #[] #[(ptr pb1 0),(ptr pb2 0)])),(7,(I (List.length a1:Int))),(8,(I (w64 (x1+1))))]) ⟨z,z,z,z,Ah⟩<|⟨k1,Az _,w64 (x1+1),z,((Ap hB1).then hB2).below,hC2,hL1⟩
   replace hL1:=AA hL1 hc1
   refine Bm (A2 (A2 (AT ?_)))
   obtain rfl:=Aa hL1
   exact An (l':=[]) Ah<|⟨z,z,(Ap hB1).below,hC1⟩
 rintro l2 _ w3 hs2 ⟨rfl,rfl,hB3,hC3⟩
 try dsimp only at hF
 refine AO hs2 ?_
 clear hs2
 refine Ac<|Ae z z<|Ab<|AC<|?_
 obtain rfl:=Aa hF
 exact Ay z z<|⟨_,z,Bk hC3 _⟩
theorem c_Slices_ContainsFunc_LLint_Lint_M_parted_c1 {w0:World} (a1:(List (List Int))) (u1:Value) (g1:RO [] w0 u1 a1) (pb1:Nat) (ax1:(List ((Int × (List Int)) × (List (Int × (List Int)))))) (g2:ROAt [] w0 pb1 0 ax1) (pb2:Nat) (ax2:(Int × (List Int))) (g3:ROAt [] w0 pb2 0 ax2) (rr:Bool) (hF:Slices.ContainsFunc_LLint_Lint_M_parted_c1 a1 ax1 ax2=some rr) :
 Calls Tryz.prog 91 [u1,(.func (.func 92) #[] #[(ptr pb1 0),(ptr pb2 0)])].toArray w0 fun e w'=>∃v,e=.returned v∧Res w0 rr v w':=by
 refine Aw Tryz.func91 z z ?_
 have hC0:=A1 w0
 unfold Slices.ContainsFunc_LLint_Lint_M_parted_c1 at hF
 refine Ac<|Ae z z<|Ab<|Ac<|Af z z<|Af z z<|be hF fun x1 hr1 hF=>ci Tryz.call140 z z (c_Slices_IndexFunc_LLint_Lint_M_parted_c1 a1 u1 (g1.now hC0.keep) pb1 ax1 (g2.now hC0.keep) pb2 ax2 (g3.now hC0.keep) x1 hr1) fun w1 hB1=>have hC1:=hC0.grow hB1;Cu z z z<|Ae z z<|Ab<|AC<|?_
 obtain rfl:=Aa hF
 exact Ay z z<|⟨_,z,AD hC1 _⟩
theorem c_M_parted {w0:World} (a1:(List Int)) (u1:Value) (g1:RO [] w0 u1 a1) (a2:(List (Int × (List Int) × Int × Int × Int))) (u2:Value) (g2:RO [] w0 u2 a2) (a3:(List ((Int × (List Int)) × (List (Int × (List Int)))))) (u3:Value) (g3:RO [] w0 u3 a3) (rr:((List (Int × (List Int))) × (List (Int × (List Int))) × Bool)) (hF:M.parted a1 a2 a3=some rr) :
 Calls Tryz.prog 52 [u1,u2,u3].toArray w0 fun e w'=>∃v,e=.returned v∧Res3 w0 rr.1 rr.2.1 rr.2.2 v w':=by
 refine Aw Tryz.func52 z z ?_
 have hC0:=A1 w0
 unfold M.parted at hF
 refine Ac<|Bb (cs:=[u3]) hC0 (ro_cells g3) z z fun b1 w1 hC1 hB1 hN1=>Ae z z<|Ae z z<|Ae z z<|Ab<|Ac<|Af z z<|Af z z<|Al hC1 0 z z C5 z z<|be hF fun x1 hr1 hF=>Bc Tryz.call46 z z (c_M_removals a1 u1 (g1.now hC1.keep) a2 u2 (g2.now hC1.keep) a3 u3 (g3.now hC1.keep) x1 hr1)<|?_
 rintro _ w2 ⟨hB2,v1,v2,F1,F2,rfl,hv1,hv2,hn1,hb1⟩
 obtain ⟨rfl,rfl⟩:=val_bool hv2
 have hC2:=hC1.pushL hB2 (Bs:=[Ad v1 x1.1]) (Fs:=[F1]) ⟨F1,_,z,hv1,z⟩ (by simpa using hn1) (fun b h=>hb1 b (by simpa using h))
 refine Af z z<|BJ z z z<|BJ z z z<|Ae z z<|Ae z z<|Ab<|A0<|Ac<|Af z z<|Bw z z<|Ab<|A7 z (fun hc1=>?_) (fun hc1=>?_)
 ·replace hF:=A9 hF hc1
  refine Ac<|Ae z z<|Ae z z<|Ae z z<|Ab<|AC<|Ar<|?_
  obtain rfl:=Aa hF
  refine Db z z z z ?_
  have hC3:=hC2.triv (BU (false))
  have hC4:=hC3.triv (nil_val (α:=(Int × (List Int))))
  have hC5:=hC4.triv (nil_val (α:=(Int × (List Int))))
  exact ⟨_,z,res3_of hC5⟩
 replace hF:=AA hF hc1
 refine A6<|Aj<|Ac<|A8 (vs:=[]) hC2 Ao ty77 z z z z (by simp) z z fun b2 w3 hC6 hB3=>?_
 have hC7:=hC6.row0 (α:=(Int × (List Int)))
 have hC8:=hC7.front 1 z
 dsimp only [List.eraseIdx,List.cons_append,List.nil_append,List.append_nil] at hC8
 have hC9:Ctx [] w0 w3 (Ad (.slice (some ⟨b2,0,none⟩) 0 0) (([]:List (Int × (List Int))):List (Int × (List Int)))::[Ad v1 (x1.1:(List (List Int))),Ai b1 [u3]]):=hC8.rowOwn (by simp [maxLen])
 refine A8 (vs:=[]) hC9 Ao ty77 z z z z (by simp) z z (fun b3 w4 hC10 hB4=>?_)
 have hC11:=hC10.row0 (α:=(Int × (List Int)))
 have hC12:=hC11.front 1 z
 dsimp only [List.eraseIdx,List.cons_append,List.nil_append,List.append_nil] at hC12
 have hC13:Ctx [] w0 w4 (Ad (.slice (some ⟨b3,0,none⟩) 0 0) (([]:List (Int × (List Int))):List (Int × (List Int)))::[Ad (.slice (some ⟨b2,0,none⟩) 0 0) (([]:List (Int × (List Int))):(List (Int × (List Int)))),Ad v1 (x1.1:(List (List Int))),Ai b1 [u3]]):=hC12.rowOwn (by simp [maxLen])
 refine Ae z z<|Ae z z<|Ab<|A0<|Ac<|Al hC13 3 z z C5 z z<|be hF fun x2 hr2 hF=>Bc Tryz.call90 z z (c_M_UnionOf a3 u3 (g3.now hC13.keep) x2 hr2)<|?_
 rintro v3 w5 ⟨hB5,F3,hv3,hn2,hb2⟩
 have hC14:=hC13.push hB5 (A:=Ad v3 x2) hv3 hn2 hb2
 refine AL Ao (hC14.ro 0 z) z z<|Af z z<|Ab<|be hF fun r1 hr3 hF=>have hC15:=hC14.ownRest;Bf (fun l w=>∃v6:Value,∃x6:(List (Int × (List Int))),∃v7:Value,∃x7:(List (Int × (List Int))),(x6,x7)=r1∧l=[(11,v6),(12,v7)]∧Ctx [] w0 w [Ad v7 (x7:(List (Int × (List Int)))),Ad v6 (x6:(List (Int × (List Int))))]) ?_ ?_
 ·refine AB<|wS (l':=[(5,(ptr b1 0)),(9,v1),(11,(.slice (some ⟨b2,0,none⟩) 0 0)),(12,(.slice (some ⟨b3,0,none⟩) 0 0)),(27,v3),(28,(I (List.length x2:Int))),(29,(I 0))]) ⟨z,z,z,z,z,z,z,Ah⟩<|Bo (fun k l w=>∃v4:Value,∃x3:(List (Int × (List Int))),∃v5:Value,∃x4:(List (Int × (List Int))),∃x5:Int,l=[(5,(ptr b1 0)),(9,v1),(11,v4),(12,v5),(27,v3),(28,(I (List.length x2:Int))),(29,(I x5))]∧Ctx [] w0 w [Item.rest v3 (x2:(List (Int × (List Int)))) (Int.toNat x5),Ad v5 (x4:(List (Int × (List Int)))),Ad v4 (x3:(List (Int × (List Int)))),Ad v1 (x1.1:(List (List Int))),Ai b1 [u3]]∧M.parted_l1 x2 x1 a3 k x3 x4 x5=some r1) FUEL ⟨(.slice (some ⟨b2,0,none⟩) 0 0),([]:List (Int × (List Int))),(.slice (some ⟨b3,0,none⟩) 0 0),([]:List (Int × (List Int))),0,z,hC15,hr3⟩<|?_
  clear hr3
  rintro k1 _ w6 ⟨v4,x3,v5,x4,x5,rfl,hC16,hL1⟩
  cases k1 with
  | zero=>rw [M.parted_l1] at hL1; cases hL1
  | succ k1 =>
   rw [M.parted_l1] at hL1
   refine Ac<|AW z z z<|Ab<|A0<|A7 z (fun hc2=>?_) (fun hc2=>?_)
   ·replace hL1:=A9 hL1 hc2
    refine A6<|Aj<|A0<|AB<|be hL1 fun x8 hx1 hL1=>?_
    obtain ⟨b4,cs1,hE1,hC17⟩:=hC16.openRest hx1
    obtain ⟨v8,he1,hC18⟩:=st77_own (hC17.cellsOwn z)
    obtain rfl:=cells_of_agg he1
    refine Ac<|Dm hC18 1 z Ao ty77 hE1 hx1 z z z<|CV (fo:=0) (cs':=[(I x8.1),v8]) hC18 1 z hE1 z z z B4 Br z z<|B0 hC18 zero77 z z fun b5 w7 hC19 hB7 hN2=>AS (cs':=[(I x8.1),v8]) (new:=[(I x8.1),v8]) hC19 0 z z (fac z<|fac (B1 (hC19.ro 1 z))<|fa0) z Br z z fun w9 hC20 hKp1=>?_
    try dsimp only [List.set] at hC20
    have hk1:=AI (Ap hB7) hN2 hKp1
    refine Ab<|Ac<|Af z z<|BS z z<|be hL1 fun x9 hr4 hL1=>cb Tryz.call91 z z (c_Slices_ContainsFunc_LLint_Lint_M_parted_c1 x1.1 v1 ((hC20.ro 5 z).now (AP _ _)) b1 a3 (hC20.boxAt 6 z (repw_slice (g3.now hC20.keep))) b5 (x8.1,x8.2) (hC20.boxAt 0 z (repw_pair repw_int (repw_slice (hC20.ro 1 z)))) x9 hr4) fun w10 hB8=>have hC21:=hC20.grow hB8;Ab<|be hL1 fun r2 hr5 hL1=>Bf (fun l w=>∃v9:Value,∃x10:(List (Int × (List Int))),∃v10:Value,∃x11:(List (Int × (List Int))),(x10,x11)=r2∧l=[(5,(ptr b1 0)),(9,v1),(11,v9),(12,v10),(27,v3),(28,(I (List.length x2:Int))),(29,(I x5))]∧Ctx [] w0 w [Df v3 (x2:(List (Int × (List Int)))) (Int.toNat x5) [(I x8.1),v8],Ad v10 (x11:(List (Int × (List Int)))),Ad v9 (x10:(List (Int × (List Int)))),Ad v1 (x1.1:(List (List Int))),Ai b1 [u3]]) ?_ ?_
    ·refine A7 z (fun hc3=>?_) (fun hc3=>?_)
     ·replace hr5:=A9 hr5 hc3
      refine AX<|Af z z<|A4 [(I x8.1),v8] hC21 0 z z z B4 Br z z<|A8 (vs:=[(.agg #[(I x8.1),v8])]) hC21 Ao ty77 z z z z (fac z<|fa0) z z fun b6 w12 hC23 hB10=>?_
      have hC24:=hC23.row0 (α:=(Int × (List Int)))
      have hC26:=hC24.f3
      have hC25:=Cm x8.1 v8 x8.2 hC26
      have hC27:=hC25.row1
      have hC28:=hC27.front 1 z
      dsimp only [List.eraseIdx,List.cons_append,List.nil_append,List.append_nil] at hC28
      have hC29:Ctx [] w0 w12 (Ad (.slice (some ⟨b6,0,none⟩) 1 1) ([(x8.1,x8.2)]:List (Int × (List Int)))::[Ai b5 [(I x8.1),v8],Df v3 (x2:(List (Int × (List Int)))) (Int.toNat x5) [(I x8.1),v8],Ad v5 (x4:(List (Int × (List Int)))),Ad v4 (x3:(List (Int × (List Int)))),Ad v1 (x1.1:(List (List Int))),Ai b1 [u3]]):=hC28.rowOwn (by simp [maxLen])
      refine be hr5 fun x12 hx2 hr5=>BA hC29 2 z Ao ty77 z hx2 z z z fun v11 w13 hC30=>?_
      try dsimp only [List.set] at hC30
      refine Ae z z<|Ab<|?_
      obtain rfl:=Aa hr5
      have hC32:=hC30.f5
      have hC33:=hC32.f5
      have hC34:=hC33.f5
      have hC35:=hC34.f5
      have hC36:=hC35.f5
      have hC37:=hC36.h5
      exact An (l':=[(5,(ptr b1 0)),(9,v1),(11,v4),(12,v11),(27,v3),(28,(I (List.length x2:Int))),(29,(I x5))]) ⟨z,z,z,z,z,z,z,Ah⟩<|⟨v4,x3,v11,x12,z,z,hC37⟩
     replace hr5:=AA hr5 hc3
     refine AX<|Af z z<|A4 [(I x8.1),v8] hC21 0 z z z B4 Br z z<|A8 (vs:=[(.agg #[(I x8.1),v8])]) hC21 Ao ty77 z z z z (fac z<|fa0) z z fun b7 w14 hC38 hB11=>?_
     have hC39:=hC38.row0 (α:=(Int × (List Int)))
     have hC41:=hC39.f3
     have hC40:=Cm x8.1 v8 x8.2 hC41
     have hC42:=hC40.row1
     have hC43:=hC42.front 1 z
     dsimp only [List.eraseIdx,List.cons_append,List.nil_append,List.append_nil] at hC43
     have hC44:Ctx [] w0 w14 (Ad (.slice (some ⟨b7,0,none⟩) 1 1) ([(x8.1,x8.2)]:List (Int × (List Int)))::[Ai b5 [(I x8.1),v8],Df v3 (x2:(List (Int × (List Int)))) (Int.toNat x5) [(I x8.1),v8],Ad v5 (x4:(List (Int × (List Int)))),Ad v4 (x3:(List (Int × (List Int)))),Ad v1 (x1.1:(List (List Int))),Ai b1 [u3]]):=hC43.rowOwn (by simp [maxLen])
     refine be hr5 fun x13 hx3 hr5=>BA hC44 3 z Ao ty77 z hx3 z z z fun v12 w15 hC45=>?_
     try dsimp only [List.set] at hC45
     refine Ae z z<|Ab<|?_
     obtain rfl:=Aa hr5
     have hC47:=hC45.f5
     have hC48:=hC47.f5
     have hC49:=hC48.f5
     have hC50:=hC49.f5
     have hC51:=hC50.f5
     have hC52:=hC51.h5
     exact An (l':=[(5,(ptr b1 0)),(9,v1),(11,v12),(12,v5),(27,v3),(28,(I (List.length x2:Int))),(29,(I x5))]) ⟨z,z,z,z,z,z,z,Ah⟩<|⟨v12,x13,v5,x4,z,z,hC52⟩
    rintro l2 _ w11 hs2 ⟨v9,x10,v10,x11,rfl,rfl,hC22⟩
    try dsimp only at hL1
    refine AJ<|AO hs2<|?_
    clear hs2
    refine AX<|Be z z z<|Af z z<|Ab<|?_
    have hC53:=Ctx.rholeNext hx1 hC22
    exact An (l':=[(5,(ptr b1 0)),(9,v1),(11,v9),(12,v10),(27,v3),(28,(I (List.length x2:Int))),(29,(I (w64 (x5+1))))]) ⟨z,z,z,z,z,z,z,Ah⟩<|⟨k1,Az _,v9,x10,v10,x11,w64 (x5+1),z,hC53,hL1⟩
   replace hL1:=AA hL1 hc2
   refine Bm (A2 (A2 (AT ?_)))
   obtain rfl:=Aa hL1
   have hC54:=hC16.f2
   have hC55:=hC54.f2
   have hC56:=hC55.h2
   exact An (l':=[(11,v4),(12,v5)]) ⟨z,z,Ah⟩<|⟨v4,x3,v5,x4,z,z,hC56⟩
 rintro l3 _ w16 hs3 ⟨v6,x6,v7,x7,rfl,rfl,hC57⟩
 try dsimp only at hF
 refine AO hs3 ?_
 clear hs3
 refine Ac<|Af z z<|Af z z<|Ae z z<|Ae z z<|Ae z z<|Ab<|AC<|?_
 obtain rfl:=Aa hF
 refine Db z z z z ?_
 have hC58:=hC57.triv (BU (true))
 have hC59:=hC58.f1
 have hC60:=hC59.f2
 exact ⟨_,z,res3_of hC60⟩
theorem c_M_TrustedFacts {w0:World} (a1:(List Int)) (u1:Value) (g1:RO [] w0 u1 a1) (a2:(List (Int × (List Int) × Int × Int × Int))) (u2:Value) (g2:RO [] w0 u2 a2) (a3:(List ((Int × (List Int)) × (List (Int × (List Int)))))) (u3:Value) (g3:RO [] w0 u3 a3) (rr:(List (Int × (List Int)))) (hF:M.TrustedFacts a1 a2 a3=some rr) :
 Calls Tryz.prog 13 [u1,u2,u3].toArray w0 fun e w'=>∃v,e=.returned v∧Res w0 rr v w':=by
 refine Aw Tryz.func13 z z ?_
 have hC0:=A1 w0
 unfold M.TrustedFacts at hF
 refine Ac<|Ae z z<|Ab<|Ac<|Af z z<|Af z z<|Af z z<|be hF fun x1 hr1 hF=>Bc Tryz.call52 z z (c_M_parted a1 u1 (g1.now hC0.keep) a2 u2 (g2.now hC0.keep) a3 u3 (g3.now hC0.keep) x1 hr1)<|?_
 rintro _ w1 ⟨hB1,v1,v2,v3,F1,F2,F3,rfl,hv1,hv2,hv3,hn1,hb1⟩
 obtain ⟨rfl,rfl⟩:=val_bool hv3
 have hC1:=hC0.pushL hB1 (Bs:=[Ad v1 x1.1,Ad v2 x1.2.1]) (Fs:=[F1,F2]) ⟨F1,_,z,hv1,F2,_,z,hv2,z⟩ (by simpa using hn1) (fun b h=>hb1 b (by simpa using h))
 refine Af z z<|BJ z z z<|BJ z z z<|BJ z z z<|Ae z z<|Ae z z<|Ae z z<|Ab<|Ac<|Af z z<|Ae z z<|Ab<|AC<|?_
 obtain rfl:=Aa hF
 exact Ay z z<|⟨_,z,B7 hC1 0 z⟩
theorem c_M_IsVar {w0:World} (a1:Int) (rr:Bool) (hF:M.IsVar a1=some rr) :
 Calls Tryz.prog 209 [(I a1)].toArray w0 fun e w'=>∃v,e=.returned v∧Res w0 rr v w':=by
 refine Aw Tryz.func209 z z ?_
 have hC0:=A1 w0
 unfold M.IsVar at hF
 refine Ac<|Ae z z<|Ab<|Ac<|Af z z<|be hF fun x1 hr1 hF=>cb BY z z (c_M_within a1 10 17 x1 hr1) fun w1 hB1=>have hC1:=hC0.grow hB1;Ae z z<|Ab<|AC<|?_
 obtain rfl:=Aa hF
 exact Ay z z<|⟨_,z,AD hC1 _⟩
theorem c_M_IsTerm {w0:World} (a1:Int) (rr:Bool) (hF:M.IsTerm a1=some rr) :
 Calls Tryz.prog 207 [(I a1)].toArray w0 fun e w'=>∃v,e=.returned v∧Res w0 rr v w':=by
 refine Aw Tryz.func207 z z ?_
 have hC0:=A1 w0
 unfold M.IsTerm at hF
 refine Ac<|Ae z z<|Ab<|be hF fun r1 hr1 hF=>BH (fun l w=>∃x1:Bool,x1=r1∧l=[(2,(.bool x1))]∧Below w0.heap.size w0 w∧Ctx [] w0 w []) ?_ ?_
 ·refine AX<|Af z z<|be hr1 fun x2 hr2 hr1=>cb Tryz.call222 z z (c_M_isValue a1 x2 hr2) fun w2 hB2=>have hC2:=hC0.grow hB2;Af z z<|Bz (fun hc1=>?_) (fun hc1=>?_)
  ·replace hr1:=A9 hr1 hc1
   refine gs z z z z<|gs z z z z<|Ba z z z<|Ae z z<|Ab<|?_
   obtain rfl:=Aa hr1
   exact An (l':=[(2,(.bool true))]) ⟨z,Ah⟩<|⟨true,z,z,(Ap hB2).below,hC2⟩
  replace hr1:=AA hr1 hc1
  refine Ak z z<|Af z z<|be hr1 fun x3 hr3 hr1=>Ak z z<|cb Dg z z (c_M_IsVar a1 x3 hr3) fun w3 hB3=>have hC3:=hC2.grow hB3;AY z z z<|Ae z z<|Ab<|?_
  obtain rfl:=Aa hr1
  exact An (l':=[(2,(.bool x3))]) ⟨z,Ah⟩<|⟨x3,z,z,((Ap hB2).then hB3).below,hC3⟩
 rintro _ w1 ⟨x1,rfl,rfl,hB1,hC1⟩
 try dsimp only at hF
 refine AC ?_
 obtain rfl:=Aa hF
 exact Ay z z<|⟨_,z,AD hC1 _⟩
theorem c_M_areTerms_c1 {w0:World} (a1:Int) (rr:Bool) (hF:M.areTerms_c1 a1=some rr) :
 Calls Tryz.prog 206 [(I a1)].toArray w0 fun e w'=>∃v,e=.returned v∧Res w0 rr v w':=by
 refine Aw Tryz.func206 z z ?_
 have hC0:=A1 w0
 unfold M.areTerms_c1 at hF
 refine Ac<|Ae z z<|Ab<|Ac<|Af z z<|be hF fun x1 hr1 hF=>cb Tryz.call207 z z (c_M_IsTerm a1 x1 hr1) fun w1 hB1=>have hC1:=hC0.grow hB1;Bw z z<|Ae z z<|Ab<|AC<|?_
 obtain rfl:=Aa hF
 exact Ay z z<|⟨_,z,AD hC1 _⟩
theorem c_Slices_IndexFunc_Lint_int_M_areTerms_c1 {w0:World} (a1:(List Int)) (u1:Value) (g1:RO [] w0 u1 a1) (rr:Int) (hF:Slices.IndexFunc_Lint_int_M_areTerms_c1 a1=some rr) :
 Calls Tryz.prog 197 [u1,(.func (.func 206) #[] #[])].toArray w0 fun e w'=>∃v,e=.returned v∧Res w0 rr v w':=by
 refine Aw CF z z ?_
 have hC0:=A1 w0
 unfold Slices.IndexFunc_Lint_int_M_areTerms_c1 at hF
 refine Ac<|Ae z z<|Ab<|A0<|Ac<|Af z z<|AL Ag g1 z z<|Af z z<|Ab<|be hF fun r1 hr1 hF=>Bf (fun l w=>.inl ()=r1∧l=[]∧Below w0.heap.size w0 w∧Ctx [] w0 w []) ?_ ?_
 ·refine AB<|wS (l':=[(0,u1),(1,(.func (.func 206) #[] #[])),(7,(I (List.length a1:Int))),(8,(I 0))]) ⟨z,z,z,z,Ah⟩<|Bo (fun k l w=>∃x1:Int,l=[(0,u1),(1,(.func (.func 206) #[] #[])),(7,(I (List.length a1:Int))),(8,(I x1))]∧Below w0.heap.size w0 w∧Ctx [] w0 w []∧Slices.IndexFunc_Lint_int_M_areTerms_c1_l1 a1 k x1=some r1) FUEL ⟨0,z,(Am _ _),hC0,hr1⟩<|?_
  clear hr1
  rintro k1 _ w1 ⟨x1,rfl,hB1,hC1,hL1⟩
  cases k1 with
  | zero=>rw [Slices.IndexFunc_Lint_int_M_areTerms_c1_l1] at hL1; cases hL1
  | succ k1 =>
   rw [Slices.IndexFunc_Lint_int_M_areTerms_c1_l1] at hL1
   refine Ac<|AW z z z<|Ab<|A0<|A7 z (fun hc1=>?_) (fun hc1=>?_)
   ·replace hL1:=A9 hL1 hc1
    refine A6<|Aj<|A0<|AB<|Ac<|Af z z<|Ae z z<|Ab<|Ac<|Af z z<|Af z z<|Af z z<|be hL1 fun x2 hx1 hL1=>AE Ag ty3 g1 hx1 z z z fun b1 o1 h1=>AH ty3 h1 hC1.keep z z fun v1 h2=>?_
    obtain rfl:=By h2
    refine be hL1 fun x3 hr2 hL1=>BQ (cap:=[]) Tryz.call206 z z z (c_M_areTerms_c1 x2 x3 hr2) fun _ w2 hv1=>?_
    obtain ⟨rfl,hB2⟩:=BR hv1
    have hC2:=hC1.grow hB2
    refine Ab<|A7 z (fun hc2=>?_) (fun hc2=>?_)
    ·replace hL1:=A9 hL1 hc2
     refine Ac<|Af z z<|Ae z z<|Ab<|AC<|AU<|Ar<|Ar<|AU<|Ar<|Ar<|?_
     obtain rfl:=Aa hL1
     dsimp only at hF
     obtain rfl:=Aa hF
     exact Ay z z<|⟨_,z,Bk hC2 _⟩
    replace hL1:=AA hL1 hc2
    exact A6<|AJ<|Aj<|AX<|Be z z z<|Af z z<|Ab<|An (l':=[(0,u1),(1,(.func (.func 206) #[] #[])),(7,(I (List.length a1:Int))),(8,(I (w64 (x1+1))))]) ⟨z,z,z,z,Ah⟩<|⟨k1,Az _,w64 (x1+1),z,((Ap hB1).then hB2).below,hC2,hL1⟩
   replace hL1:=AA hL1 hc1
   refine Bm (A2 (A2 (AT ?_)))
   obtain rfl:=Aa hL1
   exact An (l':=[]) Ah<|⟨z,z,(Ap hB1).below,hC1⟩
 rintro l2 _ w3 hs2 ⟨rfl,rfl,hB3,hC3⟩
 try dsimp only at hF
 refine AO hs2 ?_
 clear hs2
 refine Ac<|Ae z z<|Ab<|AC<|?_
 obtain rfl:=Aa hF
 exact Ay z z<|⟨_,z,Bk hC3 _⟩
theorem c_Slices_ContainsFunc_Lint_int_M_areTerms_c1 {w0:World} (a1:(List Int)) (u1:Value) (g1:RO [] w0 u1 a1) (rr:Bool) (hF:Slices.ContainsFunc_Lint_int_M_areTerms_c1 a1=some rr) :
 Calls Tryz.prog 153 [u1,(.func (.func 206) #[] #[])].toArray w0 fun e w'=>∃v,e=.returned v∧Res w0 rr v w':=by
 refine Aw CG z z ?_
 have hC0:=A1 w0
 unfold Slices.ContainsFunc_Lint_int_M_areTerms_c1 at hF
 refine Ac<|Ae z z<|Ab<|Ac<|Af z z<|Af z z<|be hF fun x1 hr1 hF=>ci CH z z (c_Slices_IndexFunc_Lint_int_M_areTerms_c1 a1 u1 (g1.now hC0.keep) x1 hr1) fun w1 hB1=>have hC1:=hC0.grow hB1;Cu z z z<|Ae z z<|Ab<|AC<|?_
 obtain rfl:=Aa hF
 exact Ay z z<|⟨_,z,AD hC1 _⟩
theorem c_M_areTerms {w0:World} (a1:(List Int)) (u1:Value) (g1:RO [] w0 u1 a1) (rr:Bool) (hF:M.areTerms a1=some rr) :
 Calls Tryz.prog 174 [u1].toArray w0 fun e w'=>∃v,e=.returned v∧Res w0 rr v w':=by
 refine Aw Tryz.func174 z z ?_
 have hC0:=A1 w0
 unfold M.areTerms at hF
 refine Ac<|Ae z z<|Ab<|Ac<|Af z z<|be hF fun x1 hr1 hF=>cb CI z z (c_Slices_ContainsFunc_Lint_int_M_areTerms_c1 a1 u1 (g1.now hC0.keep) x1 hr1) fun w1 hB1=>have hC1:=hC0.grow hB1;Bw z z<|Ae z z<|Ab<|AC<|?_
 obtain rfl:=Aa hF
 exact Ay z z<|⟨_,z,AD hC1 _⟩
theorem c_M_IsAtom {w0:World} (a1:(List Int)) (u1:Value) (g1:RO [] w0 u1 a1) (a2:(Int × (List Int))) (u2:Value) (g2:RO [] w0 u2 a2.2) (rr:Bool) (hF:M.IsAtom a1 a2=some rr) :
 Calls Tryz.prog 122 [u1,(.agg #[(I a2.1),u2])].toArray w0 fun e w'=>∃v,e=.returned v∧Res w0 rr v w':=by
 refine Aw Tryz.func122 z z ?_
 have hC0:=A1 w0
 unfold M.IsAtom at hF
 refine Ac<|Bb (cs:=[(I a2.1),u2]) hC0 z z z fun b1 w1 hC1 hB1 hN1=>Ae z z<|Ab<|be hF fun r1 hr1 hF=>BH (fun l w=>∃x1:Bool,x1=r1∧l=[(4,(.bool x1))]∧Below w1.heap.size w1 w∧Ctx [] w0 w []) ?_ ?_
 ·refine W_drawn 21 z hmix fun w3 hB3=>have hC3:=hC1.grow hB3;tm 0 z z z<|tf 1 AZ A5 z z z z z<|oe 2 z<|Al hC3 0 z z AV z z<|Ab<|be hr1 fun x2 hr2 hr1=>oe 3 z<|cb Tryz.call156 z z (c_M_hasRel a1 u1 (g1.now hC3.keep) a2.1 x2 hr2) fun w4 hB4=>have hC4:=hC3.grow hB4;Ab<|tm 4 z z z<|BP (fun hc1=>?_) (fun hc1=>?_)
  ·replace hr1:=A9 hr1 hc1
   refine tg 5 z z z z (BG AZ z z (fun w=>⟨_,Au w⟩) z)<|Ak z z<|fd AZ Au z z z z<|Ab<|tn 8 z z z z z<|tg 9 z z z z (BG AZ z z (fun w=>⟨_,A5 w⟩) z)<|Ak z z<|fd AZ A5 z z z z<|Ab<|be hr1 fun x3 hx1 hr1=>wAS (l':=[(0,u1),(1,(.agg #[(I a2.1),u2])),(3,(ptr b1 0)),(4,(.bool false)),(5,u1),(6,(ptr b1 0)),(7,(I a2.1)),(8,(.bool x2)),(9,(.bool true)),(10,(ptr b1 1)),(13,u1),(14,(ptr b1 0))]) ⟨z,z,z,z,z,z,z,z,z,z,z,z,Ah⟩<|Bq [⟨6,[],fun vs=>Bg u2,[]⟩,⟨7,[],fun vs=>Bg (I (List.length a2.2:Int)),[]⟩,⟨10,[],fun vs=>Bg (I a2.1),[]⟩,⟨11,[],fun vs=>Cj [] w0 x3,[]⟩,⟨12,[],fun vs=>Bg (I x3),[]⟩] [[],[6],[],[10],[11]] 8 z (by kernel_rfl) (by kernel_rfl) z ?_ ?_
   ·refine Aq z ?_ ?_
    ·intro w5 hB5
     refine Ax<|⟨_,z,?_⟩
     exact Ak z z<|Al (hC4.grow hB5) 0 z z At z z<|Ab<|A3 (Am _ _) z z ⟨z,z⟩
    refine Aq z ?_ ?_
    ·intro w5 hB5
     refine AN z z z ?_
     rintro _ _ ⟨rfl,rfl⟩ _
     refine Ax<|⟨_,z,?_⟩
     exact Ak z z<|AL Ag g2 z z<|Ab<|A3 (Am _ _) z z ⟨z,z⟩
    refine Aq z ?_ ?_
    ·intro w5 hB5
     refine Ax<|⟨_,z,?_⟩
     exact Ak z z<|Al (hC4.grow hB5) 0 z z AV z z<|Ab<|A3 (Am _ _) z z ⟨z,z⟩
    refine Aq z ?_ ?_
    ·intro w5 hB5
     refine AN z z z ?_
     rintro _ _ ⟨rfl,rfl⟩ _
     refine Ax<|⟨_,z,?_⟩
     exact Ak z z<|AE Ag ty3 g1 hx1 z z z fun b2 o1 h1=>Ab<|A3 (Am _ _) z z ⟨z,_,_,z,h1⟩
    refine Aq z ?_ ?_
    ·intro w5 hB5
     refine AN z z z ?_
     rintro _ _ ⟨rfl,b2,o1,rfl,h1⟩ _
     refine Ax<|⟨_,z,?_⟩
     refine Ak z z<|AH ty3 h1 (hC4.keep.then hB5) z z fun v1 h2=>?_
     obtain rfl:=By h2
     exact Ab<|A3 (Am _ _) z z ⟨z,z⟩
    exact Bl
   intro w6 hB6
   refine Av z z z ?_
   rintro _ _ ⟨rfl,rfl⟩
   refine Av z z z ?_
   rintro _ _ ⟨rfl,rfl⟩
   refine Av z z z ?_
   rintro _ _ ⟨rfl,rfl⟩
   refine Av z z z ?_
   rintro _ _ ⟨rfl,b2,o1,rfl,h1⟩
   refine Av z z z ?_
   rintro _ _ ⟨rfl,rfl⟩
   refine Bv fun hn1 hb1=>have hC5:=hC4.grow hB6;tg 13 z z z z (Dy z z)<|Ak z z<|Ca z z z<|Ab<|tp 14 z z z z<|tm 15 z z z<|BP (fun hc2=>?_) (fun hc2=>?_)
   ·replace hr1:=A9 hr1 hc2
    refine tg 16 z z z z (BG AZ z z (fun w=>⟨_,Au w⟩) z)<|Ak z z<|fd AZ Au z z z z<|Ab<|oe 17 z<|Ak z z<|Al hC5 0 z z At z z<|Ab<|be hr1 fun x4 hr3 hr1=>oe 18 z<|Ak z z<|cb Tryz.call174 z z (c_M_areTerms a2.2 u2 (g2.now hC5.keep) x4 hr3) fun w7 hB7=>have hC6:=hC5.grow hB7;Ab<|tp 19 z z z z<|ta 20 z z z<|dn<|?_
    obtain rfl:=Aa hr1
    have hC7:=hC6.h0
    exact An (l':=[(4,(.bool x4))]) ⟨z,Ah⟩<|⟨x4,z,z,((((Ap hB3).then hB4).then hB6).then hB7).below,hC7⟩
   replace hr1:=AA hr1 hc2
   refine sk 16 z z z z z<|sk 17 z z z z z<|sk 18 z z z z z<|tq 19 z z z z<|ta 20 z z z<|dn<|?_
   obtain rfl:=Aa hr1
   have hC8:=hC5.h0
   exact An (l':=[(4,(.bool false))]) ⟨z,Ah⟩<|⟨false,z,z,(((Ap hB3).then hB4).then hB6).below,hC8⟩
  replace hr1:=AA hr1 hc1
  refine sk 5 z z z z z<|sk 6 z z z z z<|sk 7 z z z z z<|sk 8 z z z z z<|sk 9 z z z z z<|sk 10 z z z z z<|sk 11 z z z z z<|sk 12 z z z z z<|sk 13 z z z z z<|tq 14 z z z z<|tm 15 z z z<|sk 16 z z z z z<|sk 17 z z z z z<|sk 18 z z z z z<|tq 19 z z z z<|ta 20 z z z<|dn<|?_
  obtain rfl:=Aa hr1
  have hC9:=hC4.h0
  exact An (l':=[(4,(.bool false))]) ⟨z,Ah⟩<|⟨false,z,z,((Ap hB3).then hB4).below,hC9⟩
 rintro _ w2 ⟨x1,rfl,rfl,hB2,hC2⟩
 try dsimp only at hF
 refine AC ?_
 obtain rfl:=Aa hF
 exact Ay z z<|⟨_,z,AD hC2 _⟩
end Go.Gx.Px
