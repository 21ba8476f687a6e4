/- The contracts of the Go functions against the pure functions, printed by program. Conditions: each says them. -/
import Derived.Test.YthidohmobbomfaaGreatC2
import Derived.Test.YthidohmobbomfaaGreatGxDg
set_option linter.unusedVariables false
set_option linter.unusedSimpArgs false
set_option maxRecDepth 100000
set_option maxHeartbeats 4000000
namespace Go.Gx.Px
open Go.Proofs Go.RowKit
open K9
theorem c_M_IsQuery_c1 {w0:World} (a1:(Int × (List Int))) (u1:Value) (g1:RO [] w0 u1 a1.2) (pb1:Nat) (ax1:(List Int)) (g2:ROAt [] w0 pb1 0 ax1) (rr:Bool) (hF:M.IsQuery_c1 a1 ax1=some rr) :
 Calls Tryz.prog 121 [(.agg #[(I a1.1),u1]),(ptr pb1 0)].toArray w0 fun e w'=>∃v,e=.returned v∧Res w0 rr v w':=by
 refine Aw Tryz.func121 z z ?_
 have hC0:=A1 w0
 unfold M.IsQuery_c1 at hF
 refine Ac<|Bb (cs:=[(I a1.1),u1]) hC0 z z z fun b1 w1 hC1 hB1 hN1=>Ae z z<|Ab<|Ac<|AH ty24 g2 hC1.keep z z fun v1 h1=>A4 [(I a1.1),u1] hC1 0 z z z C6 Cd z z<|be hF fun x1 hr1 hF=>cb Tryz.call122 z z (c_M_IsAtom ax1 v1 (h1.now hC1.keep) (a1.1,a1.2) u1 (g1.now hC1.keep) x1 hr1) fun w2 hB2=>have hC2:=hC1.grow hB2;Bw z z<|Ae z z<|Ab<|AC<|?_
 obtain rfl:=Aa hF
 exact Ay z z<|⟨_,z,AD hC2 _⟩
theorem c_Slices_Sort_Lint_int {Fs:List (List Nat)} {w0:World} (a1:(List Int)) (u1:Value) (hH:Hold [Ad u1 (a1:(List Int))] w0 Fs) (hn:Fs.flatten.Nodup) (rr:(List Int)) (hF:Slices.Sort_Lint_int a1=some rr) :
    Calls Tryz.prog 223 [u1].toArray w0 fun e w'=>∃v,e=.returned v∧v=(.tuple #[])∧Ctx Fs.flatten w0 w' [Ad u1 (rr:(List Int))]:=sort_calls Tryz.lays189 a1 u1 hH hn rr hF
theorem c_Slices_Compact_Lint_int {Fs:List (List Nat)} {w0:World} (a1:(List Int)) (u1:Value) (hH:Hold [Ad u1 (a1:(List Int))] w0 Fs) (hn:Fs.flatten.Nodup) (rr:(List Int)) (hF:Slices.Compact_Lint_int a1=some rr) :
    Calls Tryz.prog 224 [u1].toArray w0 fun e w'=>∃v,e=.returned v∧∃q0:Value,v=q0∧Ctx Fs.flatten w0 w' [Ad q0 (rr:(List Int))]:=compact_calls Tryz.laysNm220 a1 u1 hH hn rr hF
theorem c_M_termsOf_M_IsVar {w0:World} (a1:(List (Int × (List Int)))) (u1:Value) (g1:RO [] w0 u1 a1) (rr:(List Int)) (hF:M.termsOf_M_IsVar a1=some rr) :
 Calls Tryz.prog 208 [u1,(.func (.func 209) #[] #[])].toArray w0 fun e w'=>∃v,e=.returned v∧Res w0 rr v w':=by
 refine Aw Tryz.func208 z z ?_
 have hC0:=A1 w0
 unfold M.termsOf_M_IsVar at hF
 refine Ac<|Ae z z<|Ab<|Ac<|A8 (vs:=[]) hC0 Ag ty3 z z z z (by simp) z z fun b1 w1 hC1 hB1=>?_
 have hC2:=hC1.row0 (α:=Int)
 have hC3:=hC2.front 1 z
 dsimp only [List.eraseIdx,List.cons_append,List.nil_append,List.append_nil] at hC3
 have hC4:Ctx [] w0 w1 (Ad (.slice (some ⟨b1,0,none⟩) 0 0) (([]:List Int):List Int)::[]):=hC3.rowOwn (by simp [maxLen])
 refine Ae z z<|Ab<|A0<|Ac<|Af z z<|AL Bp g1 z z<|Af z z<|Ab<|be hF fun r1 hr1 hF=>Bf (fun l w=>∃v2:Value,∃x3:(List Int),x3=r1∧l=[(5,v2)]∧Ctx [] w0 w [Ad v2 (x3:(List Int))]) ?_ ?_
 ·refine AB<|wS (l':=[(1,(.func (.func 209) #[] #[])),(5,(.slice (some ⟨b1,0,none⟩) 0 0)),(11,u1),(12,(I (List.length a1:Int))),(13,(I 0))]) ⟨z,z,z,z,z,Ah⟩<|Bo (fun k l w=>∃v1:Value,∃x1:(List Int),∃x2:Int,l=[(1,(.func (.func 209) #[] #[])),(5,v1),(11,u1),(12,(I (List.length a1:Int))),(13,(I x2))]∧Ctx [] w0 w [Ad v1 (x1:(List Int))]∧M.termsOf_M_IsVar_l1 a1 k x1 x2=some r1) FUEL ⟨(.slice (some ⟨b1,0,none⟩) 0 0),([]:List Int),0,z,hC4,hr1⟩<|?_
  clear hr1
  rintro k1 _ w2 ⟨v1,x1,x2,rfl,hC5,hL1⟩
  cases k1 with
  | zero=>rw [M.termsOf_M_IsVar_l1] at hL1; cases hL1
  | succ k1 =>
   rw [M.termsOf_M_IsVar_l1] at hL1
   refine Ac<|AW z z z<|Ab<|A0<|A7 z (fun hc1=>?_) (fun hc1=>?_)
   ·replace hL1:=A9 hL1 hc1
    refine A6<|Aj<|A0<|AB<|Ac<|be hL1 fun x4 hx1 hL1=>AE Bp ty93 g1 hx1 z z z fun b2 o1 h1=>AH ty93 h1 hC5.keep z z fun v3 h2=>?_
    obtain ⟨v4,rfl,h3⟩:=Du h2
    refine B0 hC5 zero93 z z fun b3 w3 hC6 hB3 hN1=>AS (cs':=[(I x4.1),v4]) (new:=[(I x4.1),v4]) hC6 0 z z (fac z<|fac (B1 h3)<|fa0) z Cd z z fun w4 hC7 hKp1=>?_
    try dsimp only [List.set] at hC7
    have hk1:=AI (Ap hB3) hN1 hKp1
    refine Ab<|Ac<|fd AZ Au z z z z<|Al hC7 0 z z At z z<|AL Ag h3 z z<|Af z z<|Ab<|be hL1 fun r2 hr2 hL1=>Bf (fun l w=>∃v6:Value,∃x7:(List Int),x7=r2∧l=[(1,(.func (.func 209) #[] #[])),(5,v6),(11,u1),(12,(I (List.length a1:Int))),(13,(I x2))]∧Ctx [] w0 w [Ad v6 (x7:(List Int))]) ?_ ?_
    ·refine AB<|have hC20:=hC7.f1;have hC21:=hC20.h1;wS (l':=[(1,(.func (.func 209) #[] #[])),(5,v1),(11,u1),(12,(I (List.length a1:Int))),(13,(I x2)),(18,v4),(19,(I (List.length x4.2:Int))),(20,(I 0))]) ⟨z,z,z,z,z,z,z,z,Ah⟩<|Bo (fun k l w=>∃v5:Value,∃x5:(List Int),∃x6:Int,l=[(1,(.func (.func 209) #[] #[])),(5,v5),(11,u1),(12,(I (List.length a1:Int))),(13,(I x2)),(18,v4),(19,(I (List.length x4.2:Int))),(20,(I x6))]∧Ctx [] w0 w [Ad v5 (x5:(List Int))]∧M.termsOf_M_IsVar_l2 x4 k x5 x6=some r2) FUEL ⟨v1,x1,0,z,hC21,hr2⟩<|?_
     clear hr2
     rintro k2 _ w5 ⟨v5,x5,x6,rfl,hC8,hL2⟩
     cases k2 with
     | zero=>rw [M.termsOf_M_IsVar_l2] at hL2; cases hL2
     | succ k2 =>
      rw [M.termsOf_M_IsVar_l2] at hL2
      refine Ac<|AW z z z<|Ab<|A0<|A7 z (fun hc2=>?_) (fun hc2=>?_)
      ·replace hL2:=A9 hL2 hc2
       refine A6<|Aj<|A0<|AB<|Ac<|be hL2 fun x8 hx2 hL2=>AE Ag ty3 h3 hx2 z z z fun b4 o2 h4=>AH ty3 h4 hC8.keep z z fun v7 h5=>?_
       obtain rfl:=By h5
       refine Ae z z<|Ab<|Ac<|Af z z<|Af z z<|be hL2 fun x9 hr3 hL2=>BQ (cap:=[]) Dg z z z (c_M_IsVar x8 x9 hr3) fun _ w6 hv1=>?_
       obtain ⟨rfl,hB5⟩:=BR hv1
       have hC9:=hC8.grow hB5
       refine Ab<|be hL2 fun r3 hr4 hL2=>Bf (fun l w=>∃v8:Value,∃x10:(List Int),x10=r3∧l=[(1,(.func (.func 209) #[] #[])),(5,v8),(11,u1),(12,(I (List.length a1:Int))),(13,(I x2)),(18,v4),(19,(I (List.length x4.2:Int))),(20,(I x6))]∧Ctx [] w0 w [Ad v8 (x10:(List Int))]) ?_ ?_
       ·refine A7 z (fun hc3=>?_) (fun hc3=>?_)
        ·replace hr4:=A9 hr4 hc3
         refine AX<|Af z z<|Af z z<|A8 (vs:=[(I x8)]) hC9 Ag ty3 z z z z (fac z<|fa0) z z fun b5 w9 hC11 hB7=>?_
         have hC12:=hC11.row0 (α:=Int)
         have hC13:=hC12.triv (B2 (x8))
         have hC14:=hC13.row1
         have hC15:=hC14.front 1 z
         dsimp only [List.eraseIdx,List.cons_append,List.nil_append,List.append_nil] at hC15
         have hC16:Ctx [] w0 w9 (Ad (.slice (some ⟨b5,0,none⟩) 1 1) ([x8]:List Int)::[Ad v5 (x5:(List Int))]):=hC15.rowOwn (by simp [maxLen])
         refine be hr4 fun x11 hx3 hr4=>Bt (α:=Int) hC16 1 z (hC16.ro 0 z) (AP _ _) Ag ty3 z hx3 z z z fun v9 w10 hC17=>?_
         try dsimp only [List.set] at hC17
         refine Ae z z<|Ab<|?_
         obtain rfl:=Aa hr4
         have hC18:=hC17.f1
         have hC19:=hC18.h1
         exact An (l':=[(1,(.func (.func 209) #[] #[])),(5,v9),(11,u1),(12,(I (List.length a1:Int))),(13,(I x2)),(18,v4),(19,(I (List.length x4.2:Int))),(20,(I x6))]) ⟨z,z,z,z,z,z,z,z,Ah⟩<|⟨v9,x11,z,z,hC19⟩
        replace hr4:=AA hr4 hc3
        refine A6 ?_
        obtain rfl:=Aa hr4
        exact An (l':=[(1,(.func (.func 209) #[] #[])),(5,v5),(11,u1),(12,(I (List.length a1:Int))),(13,(I x2)),(18,v4),(19,(I (List.length x4.2:Int))),(20,(I x6))]) ⟨z,z,z,z,z,z,z,z,Ah⟩<|⟨v5,x5,z,z,hC9⟩
       rintro l3 _ w7 hs3 ⟨v8,x10,rfl,rfl,hC10⟩
       try dsimp only at hL2
       refine AJ<|AO hs3<|?_
       clear hs3
       exact AX<|Be z z z<|Af z z<|Ab<|An (l':=[(1,(.func (.func 209) #[] #[])),(5,v8),(11,u1),(12,(I (List.length a1:Int))),(13,(I x2)),(18,v4),(19,(I (List.length x4.2:Int))),(20,(I (w64 (x6+1))))]) ⟨z,z,z,z,z,z,z,z,Ah⟩<|⟨k2,Az _,v8,x10,w64 (x6+1),z,hC10,hL2⟩
      replace hL2:=AA hL2 hc2
      refine Bm (A2 (A2 (AT ?_)))
      obtain rfl:=Aa hL2
      exact An (l':=[(1,(.func (.func 209) #[] #[])),(5,v5),(11,u1),(12,(I (List.length a1:Int))),(13,(I x2))]) ⟨z,z,z,z,z,Ah⟩<|⟨v5,x5,z,z,hC8⟩
    rintro l4 _ w11 hs4 ⟨v6,x7,rfl,rfl,hC22⟩
    try dsimp only at hL1
    refine AJ<|AO hs4<|?_
    clear hs4
    exact AX<|Be z z z<|Af z z<|Ab<|An (l':=[(1,(.func (.func 209) #[] #[])),(5,v6),(11,u1),(12,(I (List.length a1:Int))),(13,(I (w64 (x2+1))))]) ⟨z,z,z,z,z,Ah⟩<|⟨k1,Az _,v6,x7,w64 (x2+1),z,hC22,hL1⟩
   replace hL1:=AA hL1 hc1
   refine Bm (A2 (A2 (AT ?_)))
   obtain rfl:=Aa hL1
   exact An (l':=[(5,v1)]) ⟨z,Ah⟩<|⟨v1,x1,z,z,hC5⟩
 rintro l5 _ w12 hs5 ⟨v2,x3,rfl,rfl,hC23⟩
 try dsimp only at hF
 refine AO hs5 ?_
 clear hs5
 refine Ac<|Af z z<|be hF fun x12 hr5 hF=>?_
 obtain ⟨Fs1,hH1,hn1,hF1,hO1,hb1⟩:=BO (As:=[]) [Ad v2 (x3:(List Int))] hC23
 refine Bc Tryz.call223 z z (c_Slices_Sort_Lint_int x3 v2 hH1 hn1 x12 hr5) ?_
 rintro _ w13 ⟨rfl,hq5⟩
 have hC25:Ctx [] w0 w13 [Ad v2 (x12:(List Int))]:=hb1 _ _ hq5
 refine Ab<|Ac<|Af z z<|be hF fun x13 hr6 hF=>?_
 obtain ⟨Fs2,hH2,hn2,hF2,hO2,hb2⟩:=BO (As:=[]) [Ad v2 (x12:(List Int))] hC25
 refine Bc Tryz.call224 z z (c_Slices_Compact_Lint_int x12 v2 hH2 hn2 x13 hr6) ?_
 rintro v10 w14 ⟨_,rfl,hq6⟩
 have hC27:Ctx [] w0 w14 [Ad v10 (x13:(List Int))]:=hb2 _ _ hq6
 refine Ae z z<|Ab<|AC<|?_
 obtain rfl:=Aa hF
 exact Ay z z<|⟨_,z,B7 hC27 0 z⟩
theorem c_M_VarsOf {w0:World} (a1:((List Int) × (List (Int × (List Int))))) (u1:Value) (g1:RO [] w0 u1 a1.1) (u2:Value) (g2:RO [] w0 u2 a1.2) (rr:(List Int)) (hF:M.VarsOf a1=some rr) :
 Calls Tryz.prog 175 [(.agg #[u1,u2])].toArray w0 fun e w'=>∃v,e=.returned v∧Res w0 rr v w':=by
 refine Aw Tryz.func175 z z ?_
 have hC0:=A1 w0
 unfold M.VarsOf at hF
 refine Ac<|Bb (cs:=[u1,u2]) hC0 z z z fun b1 w1 hC1 hB1 hN1=>Ae z z<|Ab<|Ac<|fd Bn BB z z z z<|Al hC1 0 z z BK z z<|be hF fun x1 hr1 hF=>Bc Tryz.call208 z z (c_M_termsOf_M_IsVar a1.2 u2 (g2.now hC1.keep) x1 hr1)<|?_
 rintro v1 w2 ⟨hB2,F1,hv1,hn1,hb1⟩
 have hC2:=hC1.push hB2 (A:=Ad v1 x1) hv1 hn1 hb1
 refine Ae z z<|Ab<|AC<|?_
 obtain rfl:=Aa hF
 exact Ay z z<|⟨_,z,B7 hC2 0 z⟩
theorem c_M_hasHead_c1 {w0:World} (a1:Int) (pb1:Nat) (ax1:(List Int)) (g1:ROAt [] w0 pb1 0 ax1) (rr:Bool) (hF:M.hasHead_c1 a1 ax1=some rr) :
 Calls Tryz.prog 176 [(I a1),(ptr pb1 0)].toArray w0 fun e w'=>∃v,e=.returned v∧Res w0 rr v w':=by
 refine Aw Tryz.func176 z z ?_
 have hC0:=A1 w0
 unfold M.hasHead_c1 at hF
 refine Ac<|Ae z z<|Ab<|Ac<|AH ty24 g1 hC0.keep z z fun v1 h1=>Af z z<|be hF fun x1 hr1 hF=>cb Tryz.call57 z z (c_Slices_Contains_Lint_int ax1 v1 (h1.now hC0.keep) a1 x1 hr1) fun w1 hB1=>have hC1:=hC0.grow hB1;Bw z z<|Ae z z<|Ab<|AC<|?_
 obtain rfl:=Aa hF
 exact Ay z z<|⟨_,z,AD hC1 _⟩
theorem c_Slices_IndexFunc_Lint_int_M_hasHead_c1 {w0:World} (a1:(List Int)) (u1:Value) (g1:RO [] w0 u1 a1) (pb1:Nat) (ax1:(List Int)) (g2:ROAt [] w0 pb1 0 ax1) (rr:Int) (hF:Slices.IndexFunc_Lint_int_M_hasHead_c1 a1 ax1=some rr) :
 Calls Tryz.prog 197 [u1,(.func (.func 176) #[] #[(ptr pb1 0)])].toArray w0 fun e w'=>∃v,e=.returned v∧Res w0 rr v w':=by
 refine Aw CF z z ?_
 have hC0:=A1 w0
 unfold Slices.IndexFunc_Lint_int_M_hasHead_c1 at hF
 refine Ac<|Ae z z<|Ab<|A0<|Ac<|Af z z<|AL Ag g1 z z<|Af z z<|Ab<|be hF fun r1 hr1 hF=>Bf (fun l w=>.inl ()=r1∧l=[]∧Below w0.heap.size w0 w∧Ctx [] w0 w []) ?_ ?_
 ·refine AB<|wS (l':=[(0,u1),(1,(.func (.func 176) #[] #[(ptr pb1 0)])),(7,(I (List.length a1:Int))),(8,(I 0))]) ⟨z,z,z,z,Ah⟩<|Bo (fun k l w=>∃x1:Int,l=[(0,u1),(1,(.func (.func 176) #[] #[(ptr pb1 0)])),(7,(I (List.length a1:Int))),(8,(I x1))]∧Below w0.heap.size w0 w∧Ctx [] w0 w []∧Slices.IndexFunc_Lint_int_M_hasHead_c1_l1 a1 ax1 k x1=some r1) FUEL ⟨0,z,(Am _ _),hC0,hr1⟩<|?_
  clear hr1
  rintro k1 _ w1 ⟨x1,rfl,hB1,hC1,hL1⟩
  cases k1 with
  | zero=>rw [Slices.IndexFunc_Lint_int_M_hasHead_c1_l1] at hL1; cases hL1
  | succ k1 =>
   rw [Slices.IndexFunc_Lint_int_M_hasHead_c1_l1] at hL1
   refine Ac<|AW z z z<|Ab<|A0<|A7 z (fun hc1=>?_) (fun hc1=>?_)
   ·replace hL1:=A9 hL1 hc1
    refine A6<|Aj<|A0<|AB<|Ac<|Af z z<|Ae z z<|Ab<|Ac<|Af z z<|Af z z<|Af z z<|be hL1 fun x2 hx1 hL1=>AE Ag ty3 g1 hx1 z z z fun b1 o1 h1=>AH ty3 h1 hC1.keep z z fun v1 h2=>?_
    obtain rfl:=By h2
    refine be hL1 fun x3 hr2 hL1=>BQ (cap:=[(ptr pb1 0)]) Tryz.call176 z z z (c_M_hasHead_c1 x2 pb1 ax1 (g2.now hC1.keep) x3 hr2) fun _ w2 hv1=>?_
    obtain ⟨rfl,hB2⟩:=BR hv1
    have hC2:=hC1.grow hB2
    refine Ab<|A7 z (fun hc2=>?_) (fun hc2=>?_)
    ·replace hL1:=A9 hL1 hc2
     refine Ac<|Af z z<|Ae z z<|Ab<|AC<|AU<|Ar<|Ar<|AU<|Ar<|Ar<|?_
     obtain rfl:=Aa hL1
     dsimp only at hF
     obtain rfl:=Aa hF
     exact Ay z z<|⟨_,z,Bk hC2 _⟩
    replace hL1:=AA hL1 hc2
    exact A6<|AJ<|Aj<|AX<|Be z z z<|Af z z<|Ab<|An (l':=[(0,u1),(1,(.func (.func 176) #[] #[(ptr pb1 0)])),(7,(I (List.length a1:Int))),(8,(I (w64 (x1+1))))]) ⟨z,z,z,z,Ah⟩<|⟨k1,Az _,w64 (x1+1),z,((Ap hB1).then hB2).below,hC2,hL1⟩
   replace hL1:=AA hL1 hc1
   refine Bm (A2 (A2 (AT ?_)))
   obtain rfl:=Aa hL1
   exact An (l':=[]) Ah<|⟨z,z,(Ap hB1).below,hC1⟩
 rintro l2 _ w3 hs2 ⟨rfl,rfl,hB3,hC3⟩
 try dsimp only at hF
 refine AO hs2 ?_
 clear hs2
 refine Ac<|Ae z z<|Ab<|AC<|?_
 obtain rfl:=Aa hF
 exact Ay z z<|⟨_,z,Bk hC3 _⟩
theorem c_Slices_ContainsFunc_Lint_int_M_hasHead_c1 {w0:World} (a1:(List Int)) (u1:Value) (g1:RO [] w0 u1 a1) (pb1:Nat) (ax1:(List Int)) (g2:ROAt [] w0 pb1 0 ax1) (rr:Bool) (hF:Slices.ContainsFunc_Lint_int_M_hasHead_c1 a1 ax1=some rr) :
 Calls Tryz.prog 153 [u1,(.func (.func 176) #[] #[(ptr pb1 0)])].toArray w0 fun e w'=>∃v,e=.returned v∧Res w0 rr v w':=by
 refine Aw CG z z ?_
 have hC0:=A1 w0
 unfold Slices.ContainsFunc_Lint_int_M_hasHead_c1 at hF
 refine Ac<|Ae z z<|Ab<|Ac<|Af z z<|Af z z<|be hF fun x1 hr1 hF=>ci CH z z (c_Slices_IndexFunc_Lint_int_M_hasHead_c1 a1 u1 (g1.now hC0.keep) pb1 ax1 (g2.now hC0.keep) x1 hr1) fun w1 hB1=>have hC1:=hC0.grow hB1;Cu z z z<|Ae z z<|Ab<|AC<|?_
 obtain rfl:=Aa hF
 exact Ay z z<|⟨_,z,AD hC1 _⟩
theorem c_M_hasHead {w0:World} (a1:((List Int) × (List (Int × (List Int))))) (u1:Value) (g1:RO [] w0 u1 a1.1) (u2:Value) (g2:RO [] w0 u2 a1.2) (rr:Bool) (hF:M.hasHead a1=some rr) :
 Calls Tryz.prog 123 [(.agg #[u1,u2])].toArray w0 fun e w'=>∃v,e=.returned v∧Res w0 rr v w':=by
 refine Aw Tryz.func123 z z ?_
 have hC0:=A1 w0
 unfold M.hasHead at hF
 refine Ac<|Bb (cs:=[u1,u2]) hC0 z z z fun b1 w1 hC1 hB1 hN1=>Ae z z<|Ab<|Ac<|A4 [u1,u2] hC1 0 z z z BL BC z z<|be hF fun x1 hr1 hF=>Bc Tryz.call175 z z (c_M_VarsOf (a1.1,a1.2) u1 (g1.now hC1.keep) u2 (g2.now hC1.keep) x1 hr1)<|?_
 rintro v1 w2 ⟨hB2,F1,hv1,hn1,hb1⟩
 have hC2:=hC1.push hB2 (A:=Ad v1 x1) hv1 hn1 hb1
 refine B0 hC2 zero24 z z fun b2 w3 hC3 hB3 hN2=>BE (cs':=[v1]) hC3 0 z z (B1 (hC3.ro 1 z)) z Au z z fun w4 hC4 hKp1=>?_
 try dsimp only [List.set] at hC4
 have hk1:=AI (((Ap hB1).then hB2).then hB3) (AM ((Ap hB1).then hB2).size hN2) hKp1
 have hk2:=AI ((Ap hB2).then hB3) (AM (Ap hB2).size hN2) hKp1
 have hk3:=AI (Ap hB3) hN2 hKp1
 refine Ab<|be hF fun r1 hr2 hF=>BH (fun l w=>∃x2:Bool,x2=r1∧l=[(2,(.bool x2))]∧Below w4.heap.size w4 w∧Ctx [] w0 w []) ?_ ?_
 ·refine AX<|fd Bn Au z z z z<|Al hC4 2 z z At z z<|AL Ag g1 z z<|CQ z z z<|Af z z<|Bz (fun hc1=>?_) (fun hc1=>?_)
  ·replace hr2:=A9 hr2 hc1
   refine Ak z z<|fd Bn Au z z z z<|Ak z z<|Al hC4 2 z z At z z<|Ak z z<|BS z z<|be hr2 fun x3 hr3 hr2=>Ak z z<|cb CI z z (c_Slices_ContainsFunc_Lint_int_M_hasHead_c1 a1.1 u1 (g1.now hC4.keep) b2 x1 (hC4.boxAt 0 z (repw_slice (hC4.ro 1 z))) x3 hr3) fun w6 hB5=>have hC6:=hC4.grow hB5;Ak z z<|Bw z z<|Ba z z z<|Ae z z<|Ab<|?_
   obtain rfl:=Aa hr2
   have hC7:=hC6.h0
   exact An (l':=[(2,(.bool (!x3)))]) ⟨z,Ah⟩<|⟨(!x3),z,z,(Ap hB5).below,hC7⟩
  replace hr2:=AA hr2 hc1
  refine gs z z z z<|gs z z z z<|gs z z z z<|gs z z z z<|gs z z z z<|AY z z z<|Ae z z<|Ab<|?_
  obtain rfl:=Aa hr2
  have hC8:=hC4.h0
  exact An (l':=[(2,(.bool false))]) ⟨z,Ah⟩<|⟨false,z,z,(Am _ _),hC8⟩
 rintro _ w5 ⟨x2,rfl,rfl,hB4,hC5⟩
 try dsimp only at hF
 refine AC ?_
 obtain rfl:=Aa hF
 exact Ay z z<|⟨_,z,AD hC5 _⟩
theorem c_Slices_IndexFunc_Limpl_Atom_impl_Atom_M_IsQuery_c1 {w0:World} (a1:(List (Int × (List Int)))) (u1:Value) (g1:RO [] w0 u1 a1) (pb1:Nat) (ax1:(List Int)) (g2:ROAt [] w0 pb1 0 ax1) (rr:Int) (hF:Slices.IndexFunc_Limpl_Atom_impl_Atom_M_IsQuery_c1 a1 ax1=some rr) :
 Calls Tryz.prog 173 [u1,(.func (.func 121) #[] #[(ptr pb1 0)])].toArray w0 fun e w'=>∃v,e=.returned v∧Res w0 rr v w':=by
 refine Aw Tryz.func173 z z ?_
 have hC0:=A1 w0
 unfold Slices.IndexFunc_Limpl_Atom_impl_Atom_M_IsQuery_c1 at hF
 refine Ac<|Ae z z<|Ab<|A0<|Ac<|Af z z<|AL Bp g1 z z<|Af z z<|Ab<|be hF fun r1 hr1 hF=>Bf (fun l w=>.inl ()=r1∧l=[]∧Below w0.heap.size w0 w∧Ctx [] w0 w []) ?_ ?_
 ·refine AB<|wS (l':=[(0,u1),(1,(.func (.func 121) #[] #[(ptr pb1 0)])),(7,(I (List.length a1:Int))),(8,(I 0))]) ⟨z,z,z,z,Ah⟩<|Bo (fun k l w=>∃x1:Int,l=[(0,u1),(1,(.func (.func 121) #[] #[(ptr pb1 0)])),(7,(I (List.length a1:Int))),(8,(I x1))]∧Below w0.heap.size w0 w∧Ctx [] w0 w []∧Slices.IndexFunc_Limpl_Atom_impl_Atom_M_IsQuery_c1_l1 a1 ax1 k x1=some r1) FUEL ⟨0,z,(Am _ _),hC0,hr1⟩<|?_
  clear hr1
  rintro k1 _ w1 ⟨x1,rfl,hB1,hC1,hL1⟩
  cases k1 with
  | zero=>rw [Slices.IndexFunc_Limpl_Atom_impl_Atom_M_IsQuery_c1_l1] at hL1; cases hL1
  | succ k1 =>
   rw [Slices.IndexFunc_Limpl_Atom_impl_Atom_M_IsQuery_c1_l1] at hL1
   refine Ac<|AW z z z<|Ab<|A0<|A7 z (fun hc1=>?_) (fun hc1=>?_)
   ·replace hL1:=A9 hL1 hc1
    refine A6<|Aj<|A0<|AB<|Ac<|Af z z<|Ae z z<|Ab<|Ac<|Af z z<|Af z z<|Af z z<|be hL1 fun x2 hx1 hL1=>AE Bp ty93 g1 hx1 z z z fun b1 o1 h1=>AH ty93 h1 hC1.keep z z fun v1 h2=>?_
    obtain ⟨v2,rfl,h3⟩:=Du h2
    refine be hL1 fun x3 hr2 hL1=>BQ (cap:=[(ptr pb1 0)]) Tryz.call121 z z z (c_M_IsQuery_c1 x2 v2 (h3.now hC1.keep) pb1 ax1 (g2.now hC1.keep) x3 hr2) fun _ w2 hv1=>?_
    obtain ⟨rfl,hB2⟩:=BR hv1
    have hC2:=hC1.grow hB2
    refine Ab<|A7 z (fun hc2=>?_) (fun hc2=>?_)
    ·replace hL1:=A9 hL1 hc2
     refine Ac<|Af z z<|Ae z z<|Ab<|AC<|AU<|Ar<|Ar<|AU<|Ar<|Ar<|?_
     obtain rfl:=Aa hL1
     dsimp only at hF
     obtain rfl:=Aa hF
     exact Ay z z<|⟨_,z,Bk hC2 _⟩
    replace hL1:=AA hL1 hc2
    exact A6<|AJ<|Aj<|AX<|Be z z z<|Af z z<|Ab<|An (l':=[(0,u1),(1,(.func (.func 121) #[] #[(ptr pb1 0)])),(7,(I (List.length a1:Int))),(8,(I (w64 (x1+1))))]) ⟨z,z,z,z,Ah⟩<|⟨k1,Az _,w64 (x1+1),z,((Ap hB1).then hB2).below,hC2,hL1⟩
   replace hL1:=AA hL1 hc1
   refine Bm (A2 (A2 (AT ?_)))
   obtain rfl:=Aa hL1
   exact An (l':=[]) Ah<|⟨z,z,(Ap hB1).below,hC1⟩
 rintro l2 _ w3 hs2 ⟨rfl,rfl,hB3,hC3⟩
 try dsimp only at hF
 refine AO hs2 ?_
 clear hs2
 refine Ac<|Ae z z<|Ab<|AC<|?_
 obtain rfl:=Aa hF
 exact Ay z z<|⟨_,z,Bk hC3 _⟩
theorem c_Slices_ContainsFunc_Limpl_Atom_impl_Atom_M_IsQuery_c1 {w0:World} (a1:(List (Int × (List Int)))) (u1:Value) (g1:RO [] w0 u1 a1) (pb1:Nat) (ax1:(List Int)) (g2:ROAt [] w0 pb1 0 ax1) (rr:Bool) (hF:Slices.ContainsFunc_Limpl_Atom_impl_Atom_M_IsQuery_c1 a1 ax1=some rr) :
 Calls Tryz.prog 120 [u1,(.func (.func 121) #[] #[(ptr pb1 0)])].toArray w0 fun e w'=>∃v,e=.returned v∧Res w0 rr v w':=by
 refine Aw Tryz.func120 z z ?_
 have hC0:=A1 w0
 unfold Slices.ContainsFunc_Limpl_Atom_impl_Atom_M_IsQuery_c1 at hF
 refine Ac<|Ae z z<|Ab<|Ac<|Af z z<|Af z z<|be hF fun x1 hr1 hF=>ci Tryz.call173 z z (c_Slices_IndexFunc_Limpl_Atom_impl_Atom_M_IsQuery_c1 a1 u1 (g1.now hC0.keep) pb1 ax1 (g2.now hC0.keep) x1 hr1) fun w1 hB1=>have hC1:=hC0.grow hB1;Cu z z z<|Ae z z<|Ab<|AC<|?_
 obtain rfl:=Aa hF
 exact Ay z z<|⟨_,z,AD hC1 _⟩
theorem c_M_IsQuery {w0:World} (a1:(List Int)) (u1:Value) (g1:RO [] w0 u1 a1) (a2:((List Int) × (List (Int × (List Int))))) (u2:Value) (g2:RO [] w0 u2 a2.1) (u3:Value) (g3:RO [] w0 u3 a2.2) (rr:Bool) (hF:M.IsQuery a1 a2=some rr) :
 Calls Tryz.prog 67 [u1,(.agg #[u2,u3])].toArray w0 fun e w'=>∃v,e=.returned v∧Res w0 rr v w':=by
 refine Aw Tryz.func67 z z ?_
 have hC0:=A1 w0
 unfold M.IsQuery at hF
 refine Ac<|Bb (cs:=[u1]) hC0 (ro_cells g1) z z fun b1 w1 hC1 hB1 hN1=>Bb (cs:=[u2,u3]) hC1 z z z fun b2 w2 hC2 hB2 hN2=>Ae z z<|Ab<|be hF fun r1 hr1 hF=>BH (fun l w=>∃x1:Bool,x1=r1∧l=[(4,(.bool x1))]∧Below w2.heap.size w2 w∧Ctx [] w0 w []) ?_ ?_
 ·refine AX<|Al hC2 1 z z At z z<|be hr1 fun x2 hr2 hr1=>cb Dj z z (c_M_IsSchema a1 u1 (g1.now hC2.keep) x2 hr2) fun w4 hB4=>have hC4:=hC2.grow hB4;Af z z<|Bz (fun hc1=>?_) (fun hc1=>?_)
  ·replace hr1:=A9 hr1 hc1
   refine Ak z z<|fd Bn BB z z z z<|Ak z z<|Al hC4 0 z z BK z z<|Ak z z<|AL Bp g3 z z<|be hr1 fun x3 hr3 hr1=>Ak z z<|cb BY z z (c_M_within (List.length a2.2:Int) 1 4 x3 hr3) fun w5 hB5=>have hC5:=hC4.grow hB5;Ba z z z<|Af z z<|Bz (fun hc2=>?_) (fun hc2=>?_)
   ·replace hr1:=A9 hr1 hc2
    refine Ak z z<|fd Bn BB z z z z<|Ak z z<|Al hC5 0 z z BK z z<|Ak z z<|BS z z<|be hr1 fun x4 hr4 hr1=>Ak z z<|cb Tryz.call120 z z (c_Slices_ContainsFunc_Limpl_Atom_impl_Atom_M_IsQuery_c1 a2.2 u3 (g3.now hC5.keep) b1 a1 (hC5.boxAt 1 z (repw_slice (g1.now hC5.keep))) x4 hr4) fun w6 hB6=>have hC6:=hC5.grow hB6;Ak z z<|Bw z z<|Ba z z z<|Af z z<|Bz (fun hc3=>?_) (fun hc3=>?_)
    ·replace hr1:=A9 hr1 hc3
     refine Ak z z<|A4 [u2,u3] hC6 0 z z z BL BC z z<|be hr1 fun x5 hr5 hr1=>Ak z z<|cb Tryz.call123 z z (c_M_hasHead (a2.1,a2.2) u2 (g2.now hC6.keep) u3 (g3.now hC6.keep) x5 hr5) fun w7 hB7=>have hC7:=hC6.grow hB7;Ba z z z<|Ae z z<|Ab<|?_
     obtain rfl:=Aa hr1
     have hC8:=hC7.h0
     exact An (l':=[(4,(.bool x5))]) ⟨z,Ah⟩<|⟨x5,z,z,((((Ap hB4).then hB5).then hB6).then hB7).below,hC8⟩
    replace hr1:=AA hr1 hc3
    refine gs z z z z<|gs z z z z<|AY z z z<|Ae z z<|Ab<|?_
    obtain rfl:=Aa hr1
    have hC9:=hC6.h0
    exact An (l':=[(4,(.bool false))]) ⟨z,Ah⟩<|⟨false,z,z,(((Ap hB4).then hB5).then hB6).below,hC9⟩
   replace hr1:=AA hr1 hc2
   refine gs z z z z<|gs z z z z<|gs z z z z<|gs z z z z<|gs z z z z<|AY z z z<|Af z z<|gs z z z z<|gs z z z z<|AY z z z<|Ae z z<|Ab<|?_
   obtain rfl:=Aa hr1
   have hC10:=hC5.h0
   exact An (l':=[(4,(.bool false))]) ⟨z,Ah⟩<|⟨false,z,z,((Ap hB4).then hB5).below,hC10⟩
  replace hr1:=AA hr1 hc1
  refine gs z z z z<|gs z z z z<|gs z z z z<|gs z z z z<|AY z z z<|Af z z<|gs z z z z<|gs z z z z<|gs z z z z<|gs z z z z<|gs z z z z<|AY z z z<|Af z z<|gs z z z z<|gs z z z z<|AY z z z<|Ae z z<|Ab<|?_
  obtain rfl:=Aa hr1
  have hC11:=hC4.h0
  exact An (l':=[(4,(.bool false))]) ⟨z,Ah⟩<|⟨false,z,z,(Ap hB4).below,hC11⟩
 rintro _ w3 ⟨x1,rfl,rfl,hB3,hC3⟩
 try dsimp only at hF
 refine AC ?_
 obtain rfl:=Aa hF
 exact Ay z z<|⟨_,z,AD hC3 _⟩
theorem c_M_Binding_entry {w0:World} (a1:((List Int) × (List Int))) (u1:Value) (g1:RO [] w0 u1 a1.1) (u2:Value) (g2:RO [] w0 u2 a1.2) (a2:Int) (rr:Int) (hF:M.Binding_entry a1 a2=some rr) :
 Calls Tryz.prog 225 [(.agg #[u1,u2]),(I a2)].toArray w0 fun e w'=>∃v,e=.returned v∧Res w0 rr v w':=by
 refine Aw Tryz.func225 z z ?_
 have hC0:=A1 w0
 unfold M.Binding_entry at hF
 refine Ac<|Bb (cs:=[u1,u2]) hC0 z z z fun b1 w1 hC1 hB1 hN1=>Ae z z<|Ab<|Ac<|fd Bj Au z z z z<|Al hC1 0 z z At z z<|fd Bj Au z z z z<|Al hC1 0 z z At z z<|AL Ag g1 z z<|fd Bj Au z z z z<|Al hC1 0 z z At z z<|AL Ag g2 z z<|WL_min z z z<|be hF fun x1 hx1 hF=>WL_slice_h Ag ty3 g1 hx1 z z z fun v1 h1=>Af z z<|be hF fun x2 hr1 hF=>ci Tryz.call102 z z (c_Slices_Index_Lint_int x1 v1 (h1.now hC1.keep) a2 x2 hr1) fun w2 hB2=>have hC2:=hC1.grow hB2;Ae z z<|Ab<|AC<|?_
 obtain rfl:=Aa hF
 exact Ay z z<|⟨_,z,Bk hC2 _⟩
theorem c_M_ValueOf {w0:World} (a1:((List Int) × (List Int))) (u1:Value) (g1:RO [] w0 u1 a1.1) (u2:Value) (g2:RO [] w0 u2 a1.2) (a2:Int) (rr:Int) (hF:M.ValueOf a1 a2=some rr) :
 Calls Tryz.prog 210 [(.agg #[u1,u2]),(I a2)].toArray w0 fun e w'=>∃v,e=.returned v∧Res w0 rr v w':=by
 refine Aw Tryz.func210 z z ?_
 have hC0:=A1 w0
 unfold M.ValueOf at hF
 refine Ac<|Bb (cs:=[u1,u2]) hC0 z z z fun b1 w1 hC1 hB1 hN1=>Ae z z<|Ab<|A0<|Ac<|Af z z<|be hF fun x1 hr1 hF=>cb Dg z z (c_M_IsVar a2 x1 hr1) fun w2 hB2=>have hC2:=hC1.grow hB2;Bw z z<|Ab<|A7 z (fun hc1=>?_) (fun hc1=>?_)
 ·replace hF:=A9 hF hc1
  refine Ac<|Af z z<|Ae z z<|Ab<|AC<|Ar<|?_
  obtain rfl:=Aa hF
  exact Ay z z<|⟨_,z,Bk hC2 _⟩
 replace hF:=AA hF hc1
 refine A6<|Aj<|Ac<|A4 [u1,u2] hC2 0 z z z B6 Bh z z<|Af z z<|be hF fun x2 hr2 hF=>ci Tryz.call225 z z (c_M_Binding_entry (a1.1,a1.2) u1 (g1.now hC2.keep) u2 (g2.now hC2.keep) a2 x2 hr2) fun w3 hB3=>have hC3:=hC2.grow hB3;Ae z z<|Ab<|A0<|Ac<|Af z z<|AW z z z<|Ab<|A7 z (fun hc2=>?_) (fun hc2=>?_)
 ·replace hF:=A9 hF hc2
  refine Ac<|Ae z z<|Ab<|AC<|Ar<|?_
  obtain rfl:=Aa hF
  exact Ay z z<|⟨_,z,Bk hC3 _⟩
 replace hF:=AA hF hc2
 refine A6<|Aj<|Ac<|fd Bj Au z z z z<|Al hC3 0 z z At z z<|Af z z<|be hF fun x3 hx1 hF=>AE Ag ty3 g2 hx1 z z z fun b2 o1 h1=>AH ty3 h1 hC3.keep z z fun v1 h2=>?_
 obtain rfl:=By h2
 refine Ae z z<|Ab<|AC<|?_
 obtain rfl:=Aa hF
 exact Ay z z<|⟨_,z,Bk hC3 _⟩
theorem c_M_TupleOf {w0:World} (a1:((List Int) × (List (Int × (List Int))))) (u1:Value) (g1:RO [] w0 u1 a1.1) (u2:Value) (g2:RO [] w0 u2 a1.2) (a2:((List Int) × (List Int))) (u3:Value) (g3:RO [] w0 u3 a2.1) (u4:Value) (g4:RO [] w0 u4 a2.2) (rr:(List Int)) (hF:M.TupleOf a1 a2=some rr) :
 Calls Tryz.prog 177 [(.agg #[u1,u2]),(.agg #[u3,u4])].toArray w0 fun e w'=>∃v,e=.returned v∧Res w0 rr v w':=by
 refine Aw Tryz.func177 z z ?_
 have hC0:=A1 w0
 unfold M.TupleOf at hF
 refine Ac<|Bb (cs:=[u1,u2]) hC0 z z z fun b1 w1 hC1 hB1 hN1=>Bb (cs:=[u3,u4]) hC1 z z z fun b2 w2 hC2 hB2 hN2=>Ae z z<|Ab<|Ac<|A8 (vs:=[]) hC2 Ag ty3 z z z z (by simp) z z fun b3 w3 hC3 hB3=>?_
 have hC4:=hC3.row0 (α:=Int)
 have hC5:=hC4.front 1 z
 dsimp only [List.eraseIdx,List.cons_append,List.nil_append,List.append_nil] at hC5
 have hC6:Ctx [] w0 w3 (Ad (.slice (some ⟨b3,0,none⟩) 0 0) (([]:List Int):List Int)::[Ai b2 [u3,u4],Ai b1 [u1,u2]]):=hC5.rowOwn (by simp [maxLen])
 refine Ae z z<|Ab<|A0<|Ac<|fd Bn Au z z z z<|Al hC6 2 z z At z z<|AL Ag g1 z z<|Af z z<|Ab<|be hF fun r1 hr1 hF=>Bf (fun l w=>∃v2:Value,∃x3:(List Int),x3=r1∧l=[(5,v2)]∧Ctx [] w0 w [Ad v2 (x3:(List Int))]) ?_ ?_
 ·refine AB<|have hC20:=hC6.f1;have hC21:=hC20.f1;have hC22:=hC21.h2;wS (l':=[(3,(ptr b2 0)),(5,(.slice (some ⟨b3,0,none⟩) 0 0)),(10,u1),(11,(I (List.length a1.1:Int))),(12,(I 0))]) ⟨z,z,z,z,z,Ah⟩<|Bo (fun k l w=>∃v1:Value,∃x1:(List Int),∃x2:Int,l=[(3,(ptr b2 0)),(5,v1),(10,u1),(11,(I (List.length a1.1:Int))),(12,(I x2))]∧Ctx [] w0 w [Ad v1 (x1:(List Int)),Ai b2 [u3,u4]]∧M.TupleOf_l1 a1 a2 k x1 x2=some r1) FUEL ⟨(.slice (some ⟨b3,0,none⟩) 0 0),([]:List Int),0,z,hC22,hr1⟩<|?_
  clear hr1
  rintro k1 _ w4 ⟨v1,x1,x2,rfl,hC7,hL1⟩
  cases k1 with
  | zero=>rw [M.TupleOf_l1] at hL1; cases hL1
  | succ k1 =>
   rw [M.TupleOf_l1] at hL1
   refine Ac<|AW z z z<|Ab<|A0<|A7 z (fun hc1=>?_) (fun hc1=>?_)
   ·replace hL1:=A9 hL1 hc1
    refine A6<|Aj<|A0<|AB<|Ac<|be hL1 fun x4 hx1 hL1=>AE Ag ty3 g1 hx1 z z z fun b4 o1 h1=>AH ty3 h1 hC7.keep z z fun v3 h2=>?_
    obtain rfl:=By h2
    refine Ae z z<|Ab<|AX<|Af z z<|A4 [u3,u4] hC7 1 z z z B6 Bh z z<|Af z z<|be hL1 fun x5 hr2 hL1=>ci Tryz.call210 z z (c_M_ValueOf (a2.1,a2.2) u3 (g3.now hC7.keep) u4 (g4.now hC7.keep) x4 x5 hr2) fun w5 hB5=>have hC8:=hC7.grow hB5;A8 (vs:=[(I x5)]) hC8 Ag ty3 z z z z (fac z<|fa0) z z fun b5 w6 hC9 hB6=>?_
    have hC10:=hC9.row0 (α:=Int)
    have hC11:=hC10.triv (B2 (x5))
    have hC12:=hC11.row1
    have hC13:=hC12.front 1 z
    dsimp only [List.eraseIdx,List.cons_append,List.nil_append,List.append_nil] at hC13
    have hC14:Ctx [] w0 w6 (Ad (.slice (some ⟨b5,0,none⟩) 1 1) ([x5]:List Int)::[Ad v1 (x1:(List Int)),Ai b2 [u3,u4]]):=hC13.rowOwn (by simp [maxLen])
    refine be hL1 fun x6 hx2 hL1=>Bt (α:=Int) hC14 1 z (hC14.ro 0 z) (AP _ _) Ag ty3 z hx2 z z z fun v4 w7 hC15=>?_
    try dsimp only [List.set] at hC15
    exact Ae z z<|Ab<|AJ<|Aj<|AX<|Be z z z<|Af z z<|Ab<|have hC16:=hC15.f2;have hC17:=hC16.f2;have hC18:=hC17.h2;An (l':=[(3,(ptr b2 0)),(5,v4),(10,u1),(11,(I (List.length a1.1:Int))),(12,(I (w64 (x2+1))))]) ⟨z,z,z,z,z,Ah⟩<|⟨k1,Az _,v4,x6,w64 (x2+1),z,hC18,hL1⟩
   replace hL1:=AA hL1 hc1
   refine Bm (A2 (A2 (AT ?_)))
   obtain rfl:=Aa hL1
   have hC19:=hC7.h1
   exact An (l':=[(5,v1)]) ⟨z,Ah⟩<|⟨v1,x1,z,z,hC19⟩
 rintro l2 _ w9 hs2 ⟨v2,x3,rfl,rfl,hC23⟩
 try dsimp only at hF
 refine AO hs2 ?_
 clear hs2
 refine Ac<|Af z z<|Ae z z<|Ab<|AC<|?_
 obtain rfl:=Aa hF
 exact Ay z z<|⟨_,z,B7 hC23 0 z⟩
theorem c_M_tuplesOf {w0:World} (a1:((List Int) × (List (Int × (List Int))))) (u1:Value) (g1:RO [] w0 u1 a1.1) (u2:Value) (g2:RO [] w0 u2 a1.2) (a2:(List ((List Int) × (List Int)))) (u3:Value) (g3:RO [] w0 u3 a2) (rr:(List (List Int))) (hF:M.tuplesOf a1 a2=some rr) :
 Calls Tryz.prog 124 [(.agg #[u1,u2]),u3].toArray w0 fun e w'=>∃v,e=.returned v∧Res w0 rr v w':=by
 refine Aw Tryz.func124 z z ?_
 have hC0:=A1 w0
 unfold M.tuplesOf at hF
 refine Ac<|Bb (cs:=[u1,u2]) hC0 z z z fun b1 w1 hC1 hB1 hN1=>Ae z z<|Ab<|Ac<|A8 (vs:=[]) hC1 AG ty24 z z z z (by simp) z z fun b2 w2 hC2 hB2=>?_
 have hC3:=hC2.row0 (α:=(List Int))
 have hC4:=hC3.front 1 z
 dsimp only [List.eraseIdx,List.cons_append,List.nil_append,List.append_nil] at hC4
 have hC5:Ctx [] w0 w2 (Ad (.slice (some ⟨b2,0,none⟩) 0 0) (([]:List (List Int)):List (List Int))::[Ai b1 [u1,u2]]):=hC4.rowOwn (by simp [maxLen])
 refine Ae z z<|Ab<|A0<|Ac<|Af z z<|AL B5 g3 z z<|Af z z<|Ab<|be hF fun r1 hr1 hF=>Bf (fun l w=>∃v2:Value,∃x3:(List (List Int)),x3=r1∧l=[(5,v2)]∧Ctx [] w0 w [Ad v2 (x3:(List (List Int)))]) ?_ ?_
 ·refine AB<|wS (l':=[(2,(ptr b1 0)),(5,(.slice (some ⟨b2,0,none⟩) 0 0)),(9,u3),(10,(I (List.length a2:Int))),(11,(I 0))]) ⟨z,z,z,z,z,Ah⟩<|Bo (fun k l w=>∃v1:Value,∃x1:(List (List Int)),∃x2:Int,l=[(2,(ptr b1 0)),(5,v1),(9,u3),(10,(I (List.length a2:Int))),(11,(I x2))]∧Ctx [] w0 w [Ad v1 (x1:(List (List Int))),Ai b1 [u1,u2]]∧M.tuplesOf_l1 a2 a1 k x1 x2=some r1) FUEL ⟨(.slice (some ⟨b2,0,none⟩) 0 0),([]:List (List Int)),0,z,hC5,hr1⟩<|?_
  clear hr1
  rintro k1 _ w3 ⟨v1,x1,x2,rfl,hC6,hL1⟩
  cases k1 with
  | zero=>rw [M.tuplesOf_l1] at hL1; cases hL1
  | succ k1 =>
   rw [M.tuplesOf_l1] at hL1
   refine Ac<|AW z z z<|Ab<|A0<|A7 z (fun hc1=>?_) (fun hc1=>?_)
   ·replace hL1:=A9 hL1 hc1
    refine A6<|Aj<|A0<|AB<|Ac<|be hL1 fun x4 hx1 hL1=>AE B5 ty149 g3 hx1 z z z fun b3 o1 h1=>AH ty149 h1 hC6.keep z z fun v3 h2=>?_
    obtain ⟨v4,v5,rfl,h3,h4⟩:=CD h2
    refine B0 hC6 zero149 z z fun b4 w4 hC7 hB4 hN2=>AS (cs':=[v4,v5]) (new:=[v4,v5]) hC7 0 z z (fac (B1 h3)<|fac (B1 h4)<|fa0) z Bh z z fun w5 hC8 hKp1=>?_
    try dsimp only [List.set] at hC8
    have hk1:=AI (Ap hB4) hN2 hKp1
    refine Ab<|AX<|Af z z<|A4 [u1,u2] hC8 2 z z z BL BC z z<|A4 [v4,v5] hC8 0 z z z B6 Bh z z<|be hL1 fun x5 hr2 hL1=>Bc Tryz.call177 z z (c_M_TupleOf (a1.1,a1.2) u1 (g1.now hC8.keep) u2 (g2.now hC8.keep) (x4.1,x4.2) v4 (h3.now hC8.keep) v5 (h4.now hC8.keep) x5 hr2)<|?_
    rintro v6 w6 ⟨hB5,F1,hv1,hn1,hb1⟩
    have hC9:=hC8.push hB5 (A:=Ad v6 x5) hv1 hn1 hb1
    refine be hL1 fun x6 hr3 hL1=>have hC10:=hC9.f2;?_
    obtain ⟨Fs1,hH1,hn2,hF1,hO1,hb2⟩:=BO (As:=[Ad v6 (x5:(List Int)),Ai b4 [v4,v5],Ai b1 [u1,u2]]) [Ad v1 (x1:(List (List Int)))] hC10
    refine Bc Tryz.call87 z z (c_M_addedTuple x1 v1 x5 v6 (hO1 0 _ _ _ z) hH1 hn2 x6 hr3) ?_
    rintro v7 w7 ⟨_,rfl,hq1⟩
    have hC11:Ctx [] w0 w7 [Ad v7 (x6:(List (List Int))),Ad v6 (x5:(List Int)),Ai b4 [v4,v5],Ai b1 [u1,u2]]:=hb2 _ _ hq1
    exact Ae z z<|Ab<|AJ<|Aj<|AX<|Be z z z<|Af z z<|Ab<|have hC12:=hC11.f3;have hC13:=hC12.f1;have hC14:=hC13.h2;An (l':=[(2,(ptr b1 0)),(5,v7),(9,u3),(10,(I (List.length a2:Int))),(11,(I (w64 (x2+1))))]) ⟨z,z,z,z,z,Ah⟩<|⟨k1,Az _,v7,x6,w64 (x2+1),z,hC14,hL1⟩
   replace hL1:=AA hL1 hc1
   refine Bm (A2 (A2 (AT ?_)))
   obtain rfl:=Aa hL1
   have hC15:=hC6.h1
   exact An (l':=[(5,v1)]) ⟨z,Ah⟩<|⟨v1,x1,z,z,hC15⟩
 rintro l2 _ w9 hs2 ⟨v2,x3,rfl,rfl,hC16⟩
 try dsimp only at hF
 refine AO hs2 ?_
 clear hs2
 refine Ac<|Af z z<|Ae z z<|Ab<|AC<|?_
 obtain rfl:=Aa hF
 exact Ay z z<|⟨_,z,B7 hC16 0 z⟩
theorem c_M_copyBinding {w0:World} (a1:((List Int) × (List Int))) (u1:Value) (g1:RO [] w0 u1 a1.1) (u2:Value) (g2:RO [] w0 u2 a1.2) (rr:((List Int) × (List Int))) (hF:M.copyBinding a1=some rr) :
 Calls Tryz.prog 226 [(.agg #[u1,u2])].toArray w0 fun e w'=>∃v,e=.returned v∧Res w0 rr v w':=by
 refine Aw Tryz.func226 z z ?_
 have hC0:=A1 w0
 unfold M.copyBinding at hF
 refine Ac<|Bb (cs:=[u1,u2]) hC0 z z z fun b1 w1 hC1 hB1 hN1=>B0 hC1 zero149 z z fun b2 w2 hC2 hB2 hN2=>Ab<|A0<|W_drawn 8 z hmix fun w3 hB3=>have hC3:=hC2.grow hB3;tf 0 Bj Au z z z z z<|tf 3 Bj Au z z z z z<|be hF fun x1 hr1 hF=>wAS (l':=[(0,(.agg #[u1,u2])),(1,(ptr b1 0)),(2,(ptr b2 0)),(3,(ptr b1 0)),(6,(ptr b1 1))]) ⟨z,z,z,z,z,Ah⟩<|Bq [⟨1,[],fun vs=>Bg u1,[]⟩,⟨2,[],fun vs=>BX x1,[]⟩,⟨4,[],fun vs=>Bg u2,[]⟩] [[],[1],[]] 3 z (by kernel_rfl) (by kernel_rfl) z ?_ ?_
 ·refine Aq z ?_ ?_
  ·intro w5 hB5
   refine Ax<|⟨_,z,?_⟩
   exact Al (hC3.grow hB5) 1 z z At z z<|Ab<|A3 (Am _ _) z z ⟨z,z⟩
  refine Aq z ?_ ?_
  ·intro w5 hB5
   refine AN z z z ?_
   rintro _ _ ⟨rfl,rfl⟩ _
   refine Ax<|⟨_,z,?_⟩
   refine Bc CJ z z (c_Slices_Clone_Lint_int a1.1 u1 (g1.now (hC3.keep.then hB5)) x1 hr1) ?_
   rintro v1 w4 ⟨hB4,F1,hv1,hn1,hb1⟩
   exact Ab<|BW hB4 z z hv1 hn1 hb1 (Val.inh hv1)
  refine Aq z ?_ ?_
  ·intro w5 hB5
   refine Ax<|⟨_,z,?_⟩
   exact Al (hC3.grow hB5) 1 z z At z z<|Ab<|A3 (Am _ _) z z ⟨z,z⟩
  exact Bl
 intro w6 hB6
 refine Av z z z ?_
 rintro _ _ ⟨rfl,rfl⟩
 refine Av z z z fun v1 F1 hv1=>Av z z z<|?_
 rintro _ _ ⟨rfl,rfl⟩
 refine Bv ?_
 intro hn2 hb2
 have hC4:=hC3.pushL hB6 (Bs:=[Ad v1 (x1:(List Int))]) (Fs:=[F1]) ⟨F1,_,z,hv1,z⟩ (by simpa using hn2) (fun b h=>(hb2 b (by simpa using h)).1)
 refine be hF fun x2 hr2 hF=>oe 5 z<|Bc CJ z z (c_Slices_Clone_Lint_int a1.2 u2 (g2.now hC4.keep) x2 hr2)<|?_
 rintro v2 w7 ⟨hB7,F2,hv2,hn3,hb3⟩
 have hC5:=hC4.push hB7 (A:=Ad v2 x2) hv2 hn3 hb3
 refine Ab<|tk 6 z z (CY (vs:=[(0,v1),(1,v2)]) z z (built149_0_1 (ro_cells (hC5.ro 1 z)) (ro_cells (hC5.ro 0 z))))<|Ck (vs:=[(0,v1),(1,v2)]) z z z (built149_0_1 (ro_cells (hC5.ro 1 z)) (ro_cells (hC5.ro 0 z)))<|Ab<|oe 7 z<|AS (cs':=[v1,v2]) (new:=[v1,v2]) hC5 2 z z (fac (B1 (hC5.ro 1 z))<|fac (B1 (hC5.ro 0 z))<|fa0) z Bh z z fun w9 hC6 hKp1=>?_
 try dsimp only [List.set] at hC6
 have hk1:=AI (((((Ap hB1).then hB2).then hB3).then hB6).then hB7) (AM (Ap hB1).size hN2) hKp1
 have hk2:=AI ((((Ap hB2).then hB3).then hB6).then hB7) hN2 hKp1
 refine Ab<|dn<|Aj<|AC<|?_
 obtain rfl:=Aa hF
 refine Cl z (rv_cell_agg (cs':=[v1,v2]) hC6 (i:=2) z z z B6 Bh z)<|have hC9:=hC6.f1;?_
 have hC7:=Ci v1 x1 v2 x2 hC9
 exact ⟨_,z,B7 hC7 0 z⟩
theorem c_M_MatchAtom {w0:World} (a1:((List Int) × (List Int))) (u1:Value) (g1:RO [] w0 u1 a1.1) (u2:Value) (g2:RO [] w0 u2 a1.2) (a2:(Int × (List Int))) (u3:Value) (g3:RO [] w0 u3 a2.2) (a3:(Int × (List Int))) (u4:Value) (g4:RO [] w0 u4 a3.2) (rr:(((List Int) × (List Int)) × Bool)) (hF:M.MatchAtom a1 a2 a3=some rr) :
 Calls Tryz.prog 211 [(.agg #[u1,u2]),(.agg #[(I a2.1),u3]),(.agg #[(I a3.1),u4])].toArray w0 fun e w'=>∃v,e=.returned v∧Res2 w0 rr.1 rr.2 v w':=by
 refine Aw Tryz.func211 z z ?_
 have hC0:=A1 w0
 unfold M.MatchAtom at hF
 refine Ac<|Bb (cs:=[u1,u2]) hC0 z z z fun b1 w1 hC1 hB1 hN1=>Bb (cs:=[(I a2.1),u3]) hC1 z z z fun b2 w2 hC2 hB2 hN2=>Bb (cs:=[(I a3.1),u4]) hC2 z z z fun b3 w3 hC3 hB3 hN3=>B0 hC3 zero149 z z fun b4 w4 hC4 hB4 hN4=>Ae z z<|Ab<|A0<|be hF fun r1 hr1 hF=>BH (fun l w=>∃x1:Bool,x1=r1∧l=[(3,(ptr b1 0)),(4,(ptr b2 0)),(5,(ptr b3 0)),(6,(ptr b4 0)),(33,(.bool x1))]∧Below w4.heap.size w4 w∧Ctx [] w0 w [Ai b4 [(.slice none 0 0),(.slice none 0 0)],Ai b3 [(I a3.1),u4],Ai b2 [(I a2.1),u3],Ai b1 [u1,u2]]) ?_ ?_
 ·refine AX<|fd AZ A5 z z z z<|Al hC4 2 z z AV z z<|fd AF A5 z z z z<|Al hC4 1 z z AV z z<|BI z z z<|Af z z<|Bz (fun hc1=>?_) (fun hc1=>?_)
  ·replace hr1:=A9 hr1 hc1
   refine gs z z z z<|gs z z z z<|gs z z z z<|gs z z z z<|gs z z z z<|gs z z z z<|gs z z z z<|Ba z z z<|Af z z<|gs z z z z<|gs z z z z<|gs z z z z<|gs z z z z<|gs z z z z<|gs z z z z<|gs z z z z<|Ba z z z<|Ab<|?_
   obtain rfl:=Aa hr1
   exact An (l':=[(3,(ptr b1 0)),(4,(ptr b2 0)),(5,(ptr b3 0)),(6,(ptr b4 0)),(33,(.bool true))]) ⟨z,z,z,z,z,Ah⟩<|⟨true,z,z,(Am _ _),hC4⟩
  replace hr1:=AA hr1 hc1
  refine Ak z z<|fd AZ Au z z z z<|Ak z z<|Al hC4 2 z z At z z<|Ak z z<|AL Ag g3 z z<|Ak z z<|fd AF Au z z z z<|Ak z z<|Al hC4 1 z z At z z<|Ak z z<|AL Ag g4 z z<|Ak z z<|BI z z z<|AY z z z<|Af z z<|Bz (fun hc2=>?_) (fun hc2=>?_)
  ·replace hr1:=A9 hr1 hc2
   refine gs z z z z<|gs z z z z<|gs z z z z<|gs z z z z<|gs z z z z<|gs z z z z<|gs z z z z<|Ba z z z<|Ab<|?_
   obtain rfl:=Aa hr1
   exact An (l':=[(3,(ptr b1 0)),(4,(ptr b2 0)),(5,(ptr b3 0)),(6,(ptr b4 0)),(33,(.bool true))]) ⟨z,z,z,z,z,Ah⟩<|⟨true,z,z,(Am _ _),hC4⟩
  replace hr1:=AA hr1 hc2
  refine Ak z z<|fd Bj Au z z z z<|Ak z z<|Al hC4 3 z z At z z<|Ak z z<|AL Ag g1 z z<|Ak z z<|fd Bj Au z z z z<|Ak z z<|Al hC4 3 z z At z z<|Ak z z<|AL Ag g2 z z<|Ak z z<|BI z z z<|AY z z z<|Ab<|?_
  obtain rfl:=Aa hr1
  exact An (l':=[(3,(ptr b1 0)),(4,(ptr b2 0)),(5,(ptr b3 0)),(6,(ptr b4 0)),(33,(.bool (!decide ((List.length a1.1:Int)=(List.length a1.2:Int)))))]) ⟨z,z,z,z,z,Ah⟩<|⟨(!decide ((List.length a1.1:Int)=(List.length a1.2:Int))),z,z,(Am _ _),hC4⟩
 rintro _ w5 ⟨x1,rfl,rfl,hB5,hC5⟩
 try dsimp only at hF
 refine A7 z (fun hc3=>?_) (fun hc3=>?_)
 ·replace hF:=A9 hF hc3
  refine Ac<|Ck (vs:=[]) z z z built149<|AS (cs':=[(.slice none 0 0),(.slice none 0 0)]) (new:=[(.slice none 0 0),(.slice none 0 0)]) hC5 0 z z (fac z<|fac z<|fa0) z Bh z z fun w6 hC6 hKp1=>?_
  try dsimp only [List.set] at hC6
  have hk1:=AI (((((Ap hB1).then hB2).then hB3).then hB4).then hB5) (AM (((Ap hB1).then hB2).then hB3).size hN4) hKp1
  have hk2:=AI ((((Ap hB2).then hB3).then hB4).then hB5) (AM ((Ap hB2).then hB3).size hN4) hKp1
  have hk3:=AI (((Ap hB3).then hB4).then hB5) (AM (Ap hB3).size hN4) hKp1
  have hk4:=AI ((Ap hB4).then hB5) hN4 hKp1
  refine Ae z z<|Ab<|AC<|Ar<|?_
  obtain rfl:=Aa hF
  refine Dn z (rv_cell_agg (cs':=[(.slice none 0 0),(.slice none 0 0)]) hC6 (i:=0) z z z B6 Bh z) (rv_tmp z) ?_
  have hC7:=hC6.triv (BU (false))
  have hC9:=hC7.triv (nil_val (α:=Int))
  have hC10:=hC9.triv (nil_val (α:=Int))
  have hC8:=Ci (.slice none 0 0) ([]) (.slice none 0 0) ([]) hC10
  exact ⟨_,z,res2_of hC8⟩
 replace hF:=AA hF hc3
 refine A6<|Aj<|Ac<|A4 [u1,u2] hC5 3 z z z B6 Bh z z<|be hF fun x2 hr2 hF=>Bc Tryz.call226 z z (c_M_copyBinding (a1.1,a1.2) u1 (g1.now hC5.keep) u2 (g2.now hC5.keep) x2 hr2)<|?_
 rintro v1 w7 ⟨hB6,F1,hv1,hn1,hb1⟩
 have hC11:=hC5.push hB6 (A:=Ad v1 x2) hv1 hn1 hb1
 obtain ⟨v2,v3,rfl,hC12⟩:=st149_own hC11
 refine B0 hC12 zero149 z z fun b5 w9 hC13 hB7 hN5=>AS (cs':=[v2,v3]) (new:=[v2,v3]) hC13 0 z z (fac (B1 (hC13.ro 1 z))<|fac (B1 (hC13.ro 2 z))<|fa0) z Bh z z fun w10 hC14 hKp2=>?_
 try dsimp only [List.set] at hC14
 have hk5:=AI (((((((Ap hB1).then hB2).then hB3).then hB4).then hB5).then hB6).then hB7) (AM ((((((Ap hB1).then hB2).then hB3).then hB4).then hB5).then hB6).size hN5) hKp2
 have hk6:=AI ((((((Ap hB2).then hB3).then hB4).then hB5).then hB6).then hB7) (AM (((((Ap hB2).then hB3).then hB4).then hB5).then hB6).size hN5) hKp2
 have hk7:=AI (((((Ap hB3).then hB4).then hB5).then hB6).then hB7) (AM ((((Ap hB3).then hB4).then hB5).then hB6).size hN5) hKp2
 have hk8:=AI ((((Ap hB4).then hB5).then hB6).then hB7) (AM (((Ap hB4).then hB5).then hB6).size hN5) hKp2
 have hk9:=AI (((Ap hB5).then hB6).then hB7) (AM ((Ap hB5).then hB6).size hN5) hKp2
 have hk10:=AI ((Ap hB6).then hB7) (AM (Ap hB6).size hN5) hKp2
 have hk11:=AI (Ap hB7) hN5 hKp2
 refine Ab<|A0<|Ac<|fd AZ Au z z z z<|Al hC14 5 z z At z z<|AL Ag g3 z z<|Af z z<|Ab<|be hF fun r2 hr3 hF=>Bf (fun l w=>∃v8:Value,∃x8:(List Int),∃v9:Value,∃x9:(List Int),∃v10:Value,∃x10:(List Int),∃v11:Value,∃x11:(List Int),.inl (x8,x9,x10,x11)=r2∧l=[(6,(ptr b4 0)),(8,(ptr b5 0))]∧Ctx [] w0 w [Ad v11 (x11:(List Int)),Ad v10 (x10:(List Int)),Ai b5 [v8,v9],Ad v8 (x8:(List Int)),Ad v9 (x9:(List Int)),Ai b4 [v10,v11]]) ?_ ?_
 ·refine AB ?_
  have hC60:=hC14.triv (nil_val (α:=Int))
  have hC61:=hC60.triv (nil_val (α:=Int))
  have hC62:=hC61.f6
  have hC63:=hC62.f6
  have hC64:=hC63.f6
  have hC65:=hC64.f6
  have hC66:=hC65.f6
  have hC67:=hC66.f5
  have hC68:=hC67.f6
  have hC69:=hC68.h7
  refine wS (l':=[(5,(ptr b3 0)),(6,(ptr b4 0)),(8,(ptr b5 0)),(38,u3),(39,(I (List.length a2.2:Int))),(40,(I 0))]) ⟨z,z,z,z,z,z,Ah⟩<|Bo (fun k l w=>∃v4:Value,∃x3:(List Int),∃v5:Value,∃x4:(List Int),∃v6:Value,∃x5:(List Int),∃v7:Value,∃x6:(List Int),∃x7:Int,l=[(5,(ptr b3 0)),(6,(ptr b4 0)),(8,(ptr b5 0)),(38,u3),(39,(I (List.length a2.2:Int))),(40,(I x7))]∧Ctx [] w0 w [Ad v7 (x6:(List Int)),Ad v6 (x5:(List Int)),Ai b5 [v4,v5],Ad v4 (x3:(List Int)),Ad v5 (x4:(List Int)),Ai b4 [v6,v7],Ai b3 [(I a3.1),u4]]∧M.MatchAtom_l1 a2 a3 k x3 x4 x5 x6 x7=some r2) FUEL ⟨v2,x2.1,v3,x2.2,(.slice none 0 0),[],(.slice none 0 0),[],0,z,hC69,hr3⟩<|?_
  clear hr3
  rintro k1 _ w11 ⟨v4,x3,v5,x4,v6,x5,v7,x6,x7,rfl,hC15,hL1⟩
  cases k1 with
  | zero=>rw [M.MatchAtom_l1] at hL1; cases hL1
  | succ k1 =>
   rw [M.MatchAtom_l1] at hL1
   refine Ac<|AW z z z<|Ab<|A0<|A7 z (fun hc4=>?_) (fun hc4=>?_)
   ·replace hL1:=A9 hL1 hc4
    refine A6<|Aj<|A0<|AB<|Ac<|Af z z<|be hL1 fun x12 hx1 hL1=>AE Ag ty3 g3 hx1 z z z fun b6 o1 h1=>AH ty3 h1 hC15.keep z z fun v12 h2=>?_
    obtain rfl:=By h2
    refine Ae z z<|Ae z z<|Ab<|A0<|be hL1 fun r3 hr4 hL1=>BH (fun l w=>∃x13:Bool,x13=r3∧l=[(5,(ptr b3 0)),(6,(ptr b4 0)),(8,(ptr b5 0)),(9,(I x7)),(10,(I x12)),(38,u3),(39,(I (List.length a2.2:Int))),(40,(I x7)),(52,(.bool x13))]∧Below w11.heap.size w11 w∧Ctx [] w0 w [Ad v7 (x6:(List Int)),Ad v6 (x5:(List Int)),Ai b5 [v4,v5],Ad v4 (x3:(List Int)),Ad v5 (x4:(List Int)),Ai b4 [v6,v7],Ai b3 [(I a3.1),u4]]) ?_ ?_
    ·refine AX<|Af z z<|be hr4 fun x14 hr5 hr4=>cb Dg z z (c_M_IsVar x12 x14 hr5) fun w13 hB10=>have hC17:=hC15.grow hB10;Af z z<|Bz (fun hc5=>?_) (fun hc5=>?_)
     ·replace hr4:=A9 hr4 hc5
      refine Ak z z<|A4 [v4,v5] hC17 2 z z z B6 Bh z z<|Ak z z<|Af z z<|be hr4 fun x15 hr6 hr4=>Ak z z<|ci Tryz.call225 z z (c_M_Binding_entry (x3,x4) v4 ((hC17.ro 3 z).now (AP _ _)) v5 ((hC17.ro 4 z).now (AP _ _)) x12 x15 hr6) fun w14 hB11=>have hC18:=hC17.grow hB11;Ak z z<|AW z z z<|Ba z z z<|Ab<|?_
      obtain rfl:=Aa hr4
      exact An (l':=[(5,(ptr b3 0)),(6,(ptr b4 0)),(8,(ptr b5 0)),(9,(I x7)),(10,(I x12)),(38,u3),(39,(I (List.length a2.2:Int))),(40,(I x7)),(52,(.bool (decide (x15 < 0))))]) ⟨z,z,z,z,z,z,z,z,z,Ah⟩<|⟨(decide (x15 < 0)),z,z,((Ap hB10).then hB11).below,hC18⟩
     replace hr4:=AA hr4 hc5
     refine gs z z z z<|gs z z z z<|gs z z z z<|gs z z z z<|AY z z z<|Ab<|?_
     obtain rfl:=Aa hr4
     exact An (l':=[(5,(ptr b3 0)),(6,(ptr b4 0)),(8,(ptr b5 0)),(9,(I x7)),(10,(I x12)),(38,u3),(39,(I (List.length a2.2:Int))),(40,(I x7)),(52,(.bool false))]) ⟨z,z,z,z,z,z,z,z,z,Ah⟩<|⟨false,z,z,(Ap hB10).below,hC17⟩
    rintro _ w12 ⟨x13,rfl,rfl,hB9,hC16⟩
    try dsimp only at hL1
    refine be hL1 fun r4 hr7 hL1=>Bf (fun l w=>∃v13:Value,∃x16:(List Int),∃v14:Value,∃x17:(List Int),(x16,x17)=r4∧l=[(5,(ptr b3 0)),(6,(ptr b4 0)),(8,(ptr b5 0)),(9,(I x7)),(10,(I x12)),(38,u3),(39,(I (List.length a2.2:Int))),(40,(I x7))]∧Ctx [] w0 w [Ad v7 (x6:(List Int)),Ad v6 (x5:(List Int)),Ai b5 [v13,v14],Ad v13 (x16:(List Int)),Ad v14 (x17:(List Int)),Ai b4 [v6,v7],Ai b3 [(I a3.1),u4]]) ?_ ?_
    ·refine A7 z (fun hc6=>?_) (fun hc6=>?_)
     ·replace hr7:=A9 hr7 hc6
      refine be hr7 fun r5 hr8 hr7=>Bf (fun l w=>∃v15:Value,∃x18:(List Int),∃v16:Value,∃x19:(List Int),(x18,x19)=r5∧l=[(5,(ptr b3 0)),(6,(ptr b4 0)),(8,(ptr b5 0)),(9,(I x7)),(10,(I x12)),(38,u3),(39,(I (List.length a2.2:Int))),(40,(I x7))]∧Ctx [] w0 w [Ad v7 (x6:(List Int)),Ad v6 (x5:(List Int)),Ai b5 [v15,v16],Ad v15 (x18:(List Int)),Ad v16 (x19:(List Int)),Ai b4 [v6,v7],Ai b3 [(I a3.1),u4]]) ?_ ?_
      ·refine W_drawn 18 z hmix fun w17 hB14=>have hC21:=hC16.grow hB14;tf 0 Bj Au z z z z z<|tm 2 z z z<|tf 5 Bj Au z z z z z<|tf 7 AF Au z z z z z<|tm 9 z z z<|be hr8 fun x20 hx2 hr8=>be hr8 fun x21 hx3 hr8=>be hr8 fun x22 hx4 hr8=>WA_dag 18 [(fun l w=>SubL [(5,(ptr b3 0)),(6,(ptr b4 0)),(8,(ptr b5 0)),(9,(I x7)),(10,(I x12)),(38,u3),(39,(I (List.length a2.2:Int))),(40,(I x7)),(52,(.bool x13)),(53,(ptr b5 0)),(55,(I x12)),(58,(ptr b5 1)),(60,(ptr b3 1)),(62,(I x7))] l∧Ctx [] w0 w [Ad v7 (x6:(List Int)),Ad v6 (x5:(List Int)),Ai b5 [v4,v5],Ad v4 (x3:(List Int)),Ad v5 (x4:(List Int)),Ai b4 [v6,v7],Ai b3 [(I a3.1),u4]]),(fun l w=>SubL [(5,(ptr b3 0)),(6,(ptr b4 0)),(8,(ptr b5 0)),(9,(I x7)),(10,(I x12)),(38,u3),(39,(I (List.length a2.2:Int))),(40,(I x7)),(52,(.bool x13)),(54,v4),(55,(I x12)),(58,(ptr b5 1)),(60,(ptr b3 1)),(62,(I x7))] l∧Ctx [] w0 w [Ad v7 (x6:(List Int)),Ad v6 (x5:(List Int)),Ai b5 [v4,v5],Ad v4 (x3:(List Int)),Ad v5 (x4:(List Int)),Ai b4 [v6,v7],Ai b3 [(I a3.1),u4]]),(fun l w=>∃b7:Nat,SubL [(5,(ptr b3 0)),(6,(ptr b4 0)),(8,(ptr b5 0)),(9,(I x7)),(10,(I x12)),(38,u3),(39,(I (List.length a2.2:Int))),(40,(I x7)),(52,(.bool x13)),(53,(ptr b5 0)),(56,(.slice (some ⟨b7,0,none⟩) 1 1)),(58,(ptr b5 1)),(60,(ptr b3 1)),(62,(I x7))] l∧Ctx [] w0 w [Ad (.slice (some ⟨b7,0,none⟩) 1 1) ([x12]:(List Int)),Ad v7 (x6:(List Int)),Ad v6 (x5:(List Int)),Ai b5 [v4,v5],Ad v4 (x3:(List Int)),Ad v5 (x4:(List Int)),Ai b4 [v6,v7],Ai b3 [(I a3.1),u4]]),(fun l w=>SubL [(5,(ptr b3 0)),(6,(ptr b4 0)),(8,(ptr b5 0)),(9,(I x7)),(10,(I x12)),(38,u3),(39,(I (List.length a2.2:Int))),(40,(I x7)),(52,(.bool x13)),(53,(ptr b5 0)),(55,(I x12)),(59,v5),(60,(ptr b3 1)),(62,(I x7))] l∧Ctx [] w0 w [Ad v7 (x6:(List Int)),Ad v6 (x5:(List Int)),Ai b5 [v4,v5],Ad v4 (x3:(List Int)),Ad v5 (x4:(List Int)),Ai b4 [v6,v7],Ai b3 [(I a3.1),u4]]),(fun l w=>SubL [(5,(ptr b3 0)),(6,(ptr b4 0)),(8,(ptr b5 0)),(9,(I x7)),(10,(I x12)),(38,u3),(39,(I (List.length a2.2:Int))),(40,(I x7)),(52,(.bool x13)),(53,(ptr b5 0)),(55,(I x12)),(58,(ptr b5 1)),(61,u4),(62,(I x7))] l∧Ctx [] w0 w [Ad v7 (x6:(List Int)),Ad v6 (x5:(List Int)),Ai b5 [v4,v5],Ad v4 (x3:(List Int)),Ad v5 (x4:(List Int)),Ai b4 [v6,v7],Ai b3 [(I a3.1),u4]]),(fun l w=>∃b7:Nat,SubL [(5,(ptr b3 0)),(6,(ptr b4 0)),(8,(ptr b5 0)),(9,(I x7)),(10,(I x12)),(38,u3),(39,(I (List.length a2.2:Int))),(40,(I x7)),(52,(.bool x13)),(54,v4),(56,(.slice (some ⟨b7,0,none⟩) 1 1)),(58,(ptr b5 1)),(60,(ptr b3 1)),(62,(I x7))] l∧Ctx [] w0 w [Ad (.slice (some ⟨b7,0,none⟩) 1 1) ([x12]:(List Int)),Ad v7 (x6:(List Int)),Ad v6 (x5:(List Int)),Ai b5 [v4,v5],Ad v4 (x3:(List Int)),Ad v5 (x4:(List Int)),Ai b4 [v6,v7],Ai b3 [(I a3.1),u4]]),(fun l w=>SubL [(5,(ptr b3 0)),(6,(ptr b4 0)),(8,(ptr b5 0)),(9,(I x7)),(10,(I x12)),(38,u3),(39,(I (List.length a2.2:Int))),(40,(I x7)),(52,(.bool x13)),(54,v4),(55,(I x12)),(59,v5),(60,(ptr b3 1)),(62,(I x7))] l∧Ctx [] w0 w [Ad v7 (x6:(List Int)),Ad v6 (x5:(List Int)),Ai b5 [v4,v5],Ad v4 (x3:(List Int)),Ad v5 (x4:(List Int)),Ai b4 [v6,v7],Ai b3 [(I a3.1),u4]]),(fun l w=>SubL [(5,(ptr b3 0)),(6,(ptr b4 0)),(8,(ptr b5 0)),(9,(I x7)),(10,(I x12)),(38,u3),(39,(I (List.length a2.2:Int))),(40,(I x7)),(52,(.bool x13)),(54,v4),(55,(I x12)),(58,(ptr b5 1)),(61,u4),(62,(I x7))] l∧Ctx [] w0 w [Ad v7 (x6:(List Int)),Ad v6 (x5:(List Int)),Ai b5 [v4,v5],Ad v4 (x3:(List Int)),Ad v5 (x4:(List Int)),Ai b4 [v6,v7],Ai b3 [(I a3.1),u4]]),(fun l w=>∃b7:Nat,SubL [(5,(ptr b3 0)),(6,(ptr b4 0)),(8,(ptr b5 0)),(9,(I x7)),(10,(I x12)),(38,u3),(39,(I (List.length a2.2:Int))),(40,(I x7)),(52,(.bool x13)),(53,(ptr b5 0)),(56,(.slice (some ⟨b7,0,none⟩) 1 1)),(59,v5),(60,(ptr b3 1)),(62,(I x7))] l∧Ctx [] w0 w [Ad (.slice (some ⟨b7,0,none⟩) 1 1) ([x12]:(List Int)),Ad v7 (x6:(List Int)),Ad v6 (x5:(List Int)),Ai b5 [v4,v5],Ad v4 (x3:(List Int)),Ad v5 (x4:(List Int)),Ai b4 [v6,v7],Ai b3 [(I a3.1),u4]]),(fun l w=>∃b7:Nat,SubL [(5,(ptr b3 0)),(6,(ptr b4 0)),(8,(ptr b5 0)),(9,(I x7)),(10,(I x12)),(38,u3),(39,(I (List.length a2.2:Int))),(40,(I x7)),(52,(.bool x13)),(53,(ptr b5 0)),(56,(.slice (some ⟨b7,0,none⟩) 1 1)),(58,(ptr b5 1)),(61,u4),(62,(I x7))] l∧Ctx [] w0 w [Ad (.slice (some ⟨b7,0,none⟩) 1 1) ([x12]:(List Int)),Ad v7 (x6:(List Int)),Ad v6 (x5:(List Int)),Ai b5 [v4,v5],Ad v4 (x3:(List Int)),Ad v5 (x4:(List Int)),Ai b4 [v6,v7],Ai b3 [(I a3.1),u4]]),(fun l w=>SubL [(5,(ptr b3 0)),(6,(ptr b4 0)),(8,(ptr b5 0)),(9,(I x7)),(10,(I x12)),(38,u3),(39,(I (List.length a2.2:Int))),(40,(I x7)),(52,(.bool x13)),(53,(ptr b5 0)),(55,(I x12)),(59,v5),(61,u4),(62,(I x7))] l∧Ctx [] w0 w [Ad v7 (x6:(List Int)),Ad v6 (x5:(List Int)),Ai b5 [v4,v5],Ad v4 (x3:(List Int)),Ad v5 (x4:(List Int)),Ai b4 [v6,v7],Ai b3 [(I a3.1),u4]]),(fun l w=>∃b8:Nat,∃o2:Nat,SubL [(5,(ptr b3 0)),(6,(ptr b4 0)),(8,(ptr b5 0)),(9,(I x7)),(10,(I x12)),(38,u3),(39,(I (List.length a2.2:Int))),(40,(I x7)),(52,(.bool x13)),(53,(ptr b5 0)),(55,(I x12)),(58,(ptr b5 1)),(63,(ptr b8 o2))] l∧ROAt [] w0 b8 o2 x21∧Ctx [] w0 w [Ad v7 (x6:(List Int)),Ad v6 (x5:(List Int)),Ai b5 [v4,v5],Ad v4 (x3:(List Int)),Ad v5 (x4:(List Int)),Ai b4 [v6,v7],Ai b3 [(I a3.1),u4]]),(fun l w=>∃b7:Nat,∃v17:Value,SubL [(5,(ptr b3 0)),(6,(ptr b4 0)),(8,(ptr b5 0)),(9,(I x7)),(10,(I x12)),(38,u3),(39,(I (List.length a2.2:Int))),(40,(I x7)),(52,(.bool x13)),(57,v17),(58,(ptr b5 1)),(60,(ptr b3 1)),(62,(I x7))] l∧Ctx [] w0 w [Ad (.slice (some ⟨b7,0,none⟩) 1 1) ([x12]:(List Int)),Ad v7 (x6:(List Int)),Ad v6 (x5:(List Int)),Ai b5 [v4,v5],Ad v17 (x20:(List Int)),Ad v5 (x4:(List Int)),Ai b4 [v6,v7],Ai b3 [(I a3.1),u4]]),(fun l w=>∃b7:Nat,SubL [(5,(ptr b3 0)),(6,(ptr b4 0)),(8,(ptr b5 0)),(9,(I x7)),(10,(I x12)),(38,u3),(39,(I (List.length a2.2:Int))),(40,(I x7)),(52,(.bool x13)),(54,v4),(56,(.slice (some ⟨b7,0,none⟩) 1 1)),(59,v5),(60,(ptr b3 1)),(62,(I x7))] l∧Ctx [] w0 w [Ad (.slice (some ⟨b7,0,none⟩) 1 1) ([x12]:(List Int)),Ad v7 (x6:(List Int)),Ad v6 (x5:(List Int)),Ai b5 [v4,v5],Ad v4 (x3:(List Int)),Ad v5 (x4:(List Int)),Ai b4 [v6,v7],Ai b3 [(I a3.1),u4]]),(fun l w=>∃b7:Nat,SubL [(5,(ptr b3 0)),(6,(ptr b4 0)),(8,(ptr b5 0)),(9,(I x7)),(10,(I x12)),(38,u3),(39,(I (List.length a2.2:Int))),(40,(I x7)),(52,(.bool x13)),(54,v4),(56,(.slice (some ⟨b7,0,none⟩) 1 1)),(58,(ptr b5 1)),(61,u4),(62,(I x7))] l∧Ctx [] w0 w [Ad (.slice (some ⟨b7,0,none⟩) 1 1) ([x12]:(List Int)),Ad v7 (x6:(List Int)),Ad v6 (x5:(List Int)),Ai b5 [v4,v5],Ad v4 (x3:(List Int)),Ad v5 (x4:(List Int)),Ai b4 [v6,v7],Ai b3 [(I a3.1),u4]]),(fun l w=>SubL [(5,(ptr b3 0)),(6,(ptr b4 0)),(8,(ptr b5 0)),(9,(I x7)),(10,(I x12)),(38,u3),(39,(I (List.length a2.2:Int))),(40,(I x7)),(52,(.bool x13)),(54,v4),(55,(I x12)),(59,v5),(61,u4),(62,(I x7))] l∧Ctx [] w0 w [Ad v7 (x6:(List Int)),Ad v6 (x5:(List Int)),Ai b5 [v4,v5],Ad v4 (x3:(List Int)),Ad v5 (x4:(List Int)),Ai b4 [v6,v7],Ai b3 [(I a3.1),u4]]),(fun l w=>∃b8:Nat,∃o2:Nat,SubL [(5,(ptr b3 0)),(6,(ptr b4 0)),(8,(ptr b5 0)),(9,(I x7)),(10,(I x12)),(38,u3),(39,(I (List.length a2.2:Int))),(40,(I x7)),(52,(.bool x13)),(54,v4),(55,(I x12)),(58,(ptr b5 1)),(63,(ptr b8 o2))] l∧ROAt [] w0 b8 o2 x21∧Ctx [] w0 w [Ad v7 (x6:(List Int)),Ad v6 (x5:(List Int)),Ai b5 [v4,v5],Ad v4 (x3:(List Int)),Ad v5 (x4:(List Int)),Ai b4 [v6,v7],Ai b3 [(I a3.1),u4]]),(fun l w=>∃b7:Nat,SubL [(5,(ptr b3 0)),(6,(ptr b4 0)),(8,(ptr b5 0)),(9,(I x7)),(10,(I x12)),(38,u3),(39,(I (List.length a2.2:Int))),(40,(I x7)),(52,(.bool x13)),(53,(ptr b5 0)),(56,(.slice (some ⟨b7,0,none⟩) 1 1)),(59,v5),(61,u4),(62,(I x7))] l∧Ctx [] w0 w [Ad (.slice (some ⟨b7,0,none⟩) 1 1) ([x12]:(List Int)),Ad v7 (x6:(List Int)),Ad v6 (x5:(List Int)),Ai b5 [v4,v5],Ad v4 (x3:(List Int)),Ad v5 (x4:(List Int)),Ai b4 [v6,v7],Ai b3 [(I a3.1),u4]]),(fun l w=>∃b7:Nat,∃b8:Nat,∃o2:Nat,SubL [(5,(ptr b3 0)),(6,(ptr b4 0)),(8,(ptr b5 0)),(9,(I x7)),(10,(I x12)),(38,u3),(39,(I (List.length a2.2:Int))),(40,(I x7)),(52,(.bool x13)),(53,(ptr b5 0)),(56,(.slice (some ⟨b7,0,none⟩) 1 1)),(58,(ptr b5 1)),(63,(ptr b8 o2))] l∧ROAt [] w0 b8 o2 x21∧Ctx [] w0 w [Ad (.slice (some ⟨b7,0,none⟩) 1 1) ([x12]:(List Int)),Ad v7 (x6:(List Int)),Ad v6 (x5:(List Int)),Ai b5 [v4,v5],Ad v4 (x3:(List Int)),Ad v5 (x4:(List Int)),Ai b4 [v6,v7],Ai b3 [(I a3.1),u4]]),(fun l w=>∃b8:Nat,∃o2:Nat,SubL [(5,(ptr b3 0)),(6,(ptr b4 0)),(8,(ptr b5 0)),(9,(I x7)),(10,(I x12)),(38,u3),(39,(I (List.length a2.2:Int))),(40,(I x7)),(52,(.bool x13)),(53,(ptr b5 0)),(55,(I x12)),(59,v5),(63,(ptr b8 o2))] l∧ROAt [] w0 b8 o2 x21∧Ctx [] w0 w [Ad v7 (x6:(List Int)),Ad v6 (x5:(List Int)),Ai b5 [v4,v5],Ad v4 (x3:(List Int)),Ad v5 (x4:(List Int)),Ai b4 [v6,v7],Ai b3 [(I a3.1),u4]]),(fun l w=>∃b8:Nat,∃o2:Nat,SubL [(5,(ptr b3 0)),(6,(ptr b4 0)),(8,(ptr b5 0)),(9,(I x7)),(10,(I x12)),(38,u3),(39,(I (List.length a2.2:Int))),(40,(I x7)),(52,(.bool x13)),(53,(ptr b5 0)),(55,(I x12)),(58,(ptr b5 1)),(64,(I x21))] l∧ROAt [] w0 b8 o2 x21∧Ctx [] w0 w [Ad v7 (x6:(List Int)),Ad v6 (x5:(List Int)),Ai b5 [v4,v5],Ad v4 (x3:(List Int)),Ad v5 (x4:(List Int)),Ai b4 [v6,v7],Ai b3 [(I a3.1),u4]]),(fun l w=>∃b7:Nat,∃v17:Value,SubL [(5,(ptr b3 0)),(6,(ptr b4 0)),(8,(ptr b5 0)),(9,(I x7)),(10,(I x12)),(38,u3),(39,(I (List.length a2.2:Int))),(40,(I x7)),(52,(.bool x13)),(57,v17),(59,v5),(60,(ptr b3 1)),(62,(I x7))] l∧Ctx [] w0 w [Ad (.slice (some ⟨b7,0,none⟩) 1 1) ([x12]:(List Int)),Ad v7 (x6:(List Int)),Ad v6 (x5:(List Int)),Ai b5 [v4,v5],Ad v17 (x20:(List Int)),Ad v5 (x4:(List Int)),Ai b4 [v6,v7],Ai b3 [(I a3.1),u4]]),(fun l w=>∃b7:Nat,∃v17:Value,SubL [(5,(ptr b3 0)),(6,(ptr b4 0)),(8,(ptr b5 0)),(9,(I x7)),(10,(I x12)),(38,u3),(39,(I (List.length a2.2:Int))),(40,(I x7)),(52,(.bool x13)),(57,v17),(58,(ptr b5 1)),(61,u4),(62,(I x7))] l∧Ctx [] w0 w [Ad (.slice (some ⟨b7,0,none⟩) 1 1) ([x12]:(List Int)),Ad v7 (x6:(List Int)),Ad v6 (x5:(List Int)),Ai b5 [v4,v5],Ad v17 (x20:(List Int)),Ad v5 (x4:(List Int)),Ai b4 [v6,v7],Ai b3 [(I a3.1),u4]]),(fun l w=>∃b7:Nat,SubL [(5,(ptr b3 0)),(6,(ptr b4 0)),(8,(ptr b5 0)),(9,(I x7)),(10,(I x12)),(38,u3),(39,(I (List.length a2.2:Int))),(40,(I x7)),(52,(.bool x13)),(54,v4),(56,(.slice (some ⟨b7,0,none⟩) 1 1)),(59,v5),(61,u4),(62,(I x7))] l∧Ctx [] w0 w [Ad (.slice (some ⟨b7,0,none⟩) 1 1) ([x12]:(List Int)),Ad v7 (x6:(List Int)),Ad v6 (x5:(List Int)),Ai b5 [v4,v5],Ad v4 (x3:(List Int)),Ad v5 (x4:(List Int)),Ai b4 [v6,v7],Ai b3 [(I a3.1),u4]]),(fun l w=>∃b7:Nat,∃b8:Nat,∃o2:Nat,SubL [(5,(ptr b3 0)),(6,(ptr b4 0)),(8,(ptr b5 0)),(9,(I x7)),(10,(I x12)),(38,u3),(39,(I (List.length a2.2:Int))),(40,(I x7)),(52,(.bool x13)),(54,v4),(56,(.slice (some ⟨b7,0,none⟩) 1 1)),(58,(ptr b5 1)),(63,(ptr b8 o2))] l∧ROAt [] w0 b8 o2 x21∧Ctx [] w0 w [Ad (.slice (some ⟨b7,0,none⟩) 1 1) ([x12]:(List Int)),Ad v7 (x6:(List Int)),Ad v6 (x5:(List Int)),Ai b5 [v4,v5],Ad v4 (x3:(List Int)),Ad v5 (x4:(List Int)),Ai b4 [v6,v7],Ai b3 [(I a3.1),u4]]),(fun l w=>∃b8:Nat,∃o2:Nat,SubL [(5,(ptr b3 0)),(6,(ptr b4 0)),(8,(ptr b5 0)),(9,(I x7)),(10,(I x12)),(38,u3),(39,(I (List.length a2.2:Int))),(40,(I x7)),(52,(.bool x13)),(54,v4),(55,(I x12)),(59,v5),(63,(ptr b8 o2))] l∧ROAt [] w0 b8 o2 x21∧Ctx [] w0 w [Ad v7 (x6:(List Int)),Ad v6 (x5:(List Int)),Ai b5 [v4,v5],Ad v4 (x3:(List Int)),Ad v5 (x4:(List Int)),Ai b4 [v6,v7],Ai b3 [(I a3.1),u4]]),(fun l w=>∃b8:Nat,∃o2:Nat,SubL [(5,(ptr b3 0)),(6,(ptr b4 0)),(8,(ptr b5 0)),(9,(I x7)),(10,(I x12)),(38,u3),(39,(I (List.length a2.2:Int))),(40,(I x7)),(52,(.bool x13)),(54,v4),(55,(I x12)),(58,(ptr b5 1)),(64,(I x21))] l∧ROAt [] w0 b8 o2 x21∧Ctx [] w0 w [Ad v7 (x6:(List Int)),Ad v6 (x5:(List Int)),Ai b5 [v4,v5],Ad v4 (x3:(List Int)),Ad v5 (x4:(List Int)),Ai b4 [v6,v7],Ai b3 [(I a3.1),u4]]),(fun l w=>∃b7:Nat,∃b8:Nat,∃o2:Nat,SubL [(5,(ptr b3 0)),(6,(ptr b4 0)),(8,(ptr b5 0)),(9,(I x7)),(10,(I x12)),(38,u3),(39,(I (List.length a2.2:Int))),(40,(I x7)),(52,(.bool x13)),(53,(ptr b5 0)),(56,(.slice (some ⟨b7,0,none⟩) 1 1)),(59,v5),(63,(ptr b8 o2))] l∧ROAt [] w0 b8 o2 x21∧Ctx [] w0 w [Ad (.slice (some ⟨b7,0,none⟩) 1 1) ([x12]:(List Int)),Ad v7 (x6:(List Int)),Ad v6 (x5:(List Int)),Ai b5 [v4,v5],Ad v4 (x3:(List Int)),Ad v5 (x4:(List Int)),Ai b4 [v6,v7],Ai b3 [(I a3.1),u4]]),(fun l w=>∃b7:Nat,∃b8:Nat,∃o2:Nat,SubL [(5,(ptr b3 0)),(6,(ptr b4 0)),(8,(ptr b5 0)),(9,(I x7)),(10,(I x12)),(38,u3),(39,(I (List.length a2.2:Int))),(40,(I x7)),(52,(.bool x13)),(53,(ptr b5 0)),(56,(.slice (some ⟨b7,0,none⟩) 1 1)),(58,(ptr b5 1)),(64,(I x21))] l∧ROAt [] w0 b8 o2 x21∧Ctx [] w0 w [Ad (.slice (some ⟨b7,0,none⟩) 1 1) ([x12]:(List Int)),Ad v7 (x6:(List Int)),Ad v6 (x5:(List Int)),Ai b5 [v4,v5],Ad v4 (x3:(List Int)),Ad v5 (x4:(List Int)),Ai b4 [v6,v7],Ai b3 [(I a3.1),u4]]),(fun l w=>∃b8:Nat,∃o2:Nat,SubL [(5,(ptr b3 0)),(6,(ptr b4 0)),(8,(ptr b5 0)),(9,(I x7)),(10,(I x12)),(38,u3),(39,(I (List.length a2.2:Int))),(40,(I x7)),(52,(.bool x13)),(53,(ptr b5 0)),(55,(I x12)),(59,v5),(64,(I x21))] l∧ROAt [] w0 b8 o2 x21∧Ctx [] w0 w [Ad v7 (x6:(List Int)),Ad v6 (x5:(List Int)),Ai b5 [v4,v5],Ad v4 (x3:(List Int)),Ad v5 (x4:(List Int)),Ai b4 [v6,v7],Ai b3 [(I a3.1),u4]]),(fun l w=>∃b8:Nat,∃o2:Nat,∃b9:Nat,SubL [(5,(ptr b3 0)),(6,(ptr b4 0)),(8,(ptr b5 0)),(9,(I x7)),(10,(I x12)),(38,u3),(39,(I (List.length a2.2:Int))),(40,(I x7)),(52,(.bool x13)),(53,(ptr b5 0)),(55,(I x12)),(58,(ptr b5 1)),(65,(.slice (some ⟨b9,0,none⟩) 1 1))] l∧ROAt [] w0 b8 o2 x21∧Ctx [] w0 w [Ad (.slice (some ⟨b9,0,none⟩) 1 1) ([x21]:(List Int)),Ad v7 (x6:(List Int)),Ad v6 (x5:(List Int)),Ai b5 [v4,v5],Ad v4 (x3:(List Int)),Ad v5 (x4:(List Int)),Ai b4 [v6,v7],Ai b3 [(I a3.1),u4]]),(fun l w=>∃b7:Nat,∃v17:Value,SubL [(5,(ptr b3 0)),(6,(ptr b4 0)),(8,(ptr b5 0)),(9,(I x7)),(10,(I x12)),(38,u3),(39,(I (List.length a2.2:Int))),(40,(I x7)),(52,(.bool x13)),(57,v17),(59,v5),(61,u4),(62,(I x7))] l∧Ctx [] w0 w [Ad (.slice (some ⟨b7,0,none⟩) 1 1) ([x12]:(List Int)),Ad v7 (x6:(List Int)),Ad v6 (x5:(List Int)),Ai b5 [v4,v5],Ad v17 (x20:(List Int)),Ad v5 (x4:(List Int)),Ai b4 [v6,v7],Ai b3 [(I a3.1),u4]]),(fun l w=>∃b7:Nat,∃v17:Value,SubL [(5,(ptr b3 0)),(6,(ptr b4 0)),(8,(ptr b5 0)),(9,(I x7)),(10,(I x12)),(38,u3),(39,(I (List.length a2.2:Int))),(40,(I x7)),(52,(.bool x13)),(57,v17),(59,v5),(60,(ptr b3 1)),(62,(I x7)),(67,(ptr b5 0))] l∧Ctx [] w0 w [Ad (.slice (some ⟨b7,0,none⟩) 1 1) ([x12]:(List Int)),Ad v7 (x6:(List Int)),Ad v6 (x5:(List Int)),Ai b5 [v4,v5],Ad v17 (x20:(List Int)),Ad v5 (x4:(List Int)),Ai b4 [v6,v7],Ai b3 [(I a3.1),u4]]),(fun l w=>∃b7:Nat,∃v17:Value,∃b8:Nat,∃o2:Nat,SubL [(5,(ptr b3 0)),(6,(ptr b4 0)),(8,(ptr b5 0)),(9,(I x7)),(10,(I x12)),(38,u3),(39,(I (List.length a2.2:Int))),(40,(I x7)),(52,(.bool x13)),(57,v17),(58,(ptr b5 1)),(63,(ptr b8 o2))] l∧ROAt [] w0 b8 o2 x21∧Ctx [] w0 w [Ad (.slice (some ⟨b7,0,none⟩) 1 1) ([x12]:(List Int)),Ad v7 (x6:(List Int)),Ad v6 (x5:(List Int)),Ai b5 [v4,v5],Ad v17 (x20:(List Int)),Ad v5 (x4:(List Int)),Ai b4 [v6,v7],Ai b3 [(I a3.1),u4]]),(fun l w=>∃b7:Nat,∃b8:Nat,∃o2:Nat,SubL [(5,(ptr b3 0)),(6,(ptr b4 0)),(8,(ptr b5 0)),(9,(I x7)),(10,(I x12)),(38,u3),(39,(I (List.length a2.2:Int))),(40,(I x7)),(52,(.bool x13)),(54,v4),(56,(.slice (some ⟨b7,0,none⟩) 1 1)),(59,v5),(63,(ptr b8 o2))] l∧ROAt [] w0 b8 o2 x21∧Ctx [] w0 w [Ad (.slice (some ⟨b7,0,none⟩) 1 1) ([x12]:(List Int)),Ad v7 (x6:(List Int)),Ad v6 (x5:(List Int)),Ai b5 [v4,v5],Ad v4 (x3:(List Int)),Ad v5 (x4:(List Int)),Ai b4 [v6,v7],Ai b3 [(I a3.1),u4]]),(fun l w=>∃b7:Nat,∃b8:Nat,∃o2:Nat,SubL [(5,(ptr b3 0)),(6,(ptr b4 0)),(8,(ptr b5 0)),(9,(I x7)),(10,(I x12)),(38,u3),(39,(I (List.length a2.2:Int))),(40,(I x7)),(52,(.bool x13)),(54,v4),(56,(.slice (some ⟨b7,0,none⟩) 1 1)),(58,(ptr b5 1)),(64,(I x21))] l∧ROAt [] w0 b8 o2 x21∧Ctx [] w0 w [Ad (.slice (some ⟨b7,0,none⟩) 1 1) ([x12]:(List Int)),Ad v7 (x6:(List Int)),Ad v6 (x5:(List Int)),Ai b5 [v4,v5],Ad v4 (x3:(List Int)),Ad v5 (x4:(List Int)),Ai b4 [v6,v7],Ai b3 [(I a3.1),u4]]),(fun l w=>∃b8:Nat,∃o2:Nat,SubL [(5,(ptr b3 0)),(6,(ptr b4 0)),(8,(ptr b5 0)),(9,(I x7)),(10,(I x12)),(38,u3),(39,(I (List.length a2.2:Int))),(40,(I x7)),(52,(.bool x13)),(54,v4),(55,(I x12)),(59,v5),(64,(I x21))] l∧ROAt [] w0 b8 o2 x21∧Ctx [] w0 w [Ad v7 (x6:(List Int)),Ad v6 (x5:(List Int)),Ai b5 [v4,v5],Ad v4 (x3:(List Int)),Ad v5 (x4:(List Int)),Ai b4 [v6,v7],Ai b3 [(I a3.1),u4]]),(fun l w=>∃b8:Nat,∃o2:Nat,∃b9:Nat,SubL [(5,(ptr b3 0)),(6,(ptr b4 0)),(8,(ptr b5 0)),(9,(I x7)),(10,(I x12)),(38,u3),(39,(I (List.length a2.2:Int))),(40,(I x7)),(52,(.bool x13)),(54,v4),(55,(I x12)),(58,(ptr b5 1)),(65,(.slice (some ⟨b9,0,none⟩) 1 1))] l∧ROAt [] w0 b8 o2 x21∧Ctx [] w0 w [Ad (.slice (some ⟨b9,0,none⟩) 1 1) ([x21]:(List Int)),Ad v7 (x6:(List Int)),Ad v6 (x5:(List Int)),Ai b5 [v4,v5],Ad v4 (x3:(List Int)),Ad v5 (x4:(List Int)),Ai b4 [v6,v7],Ai b3 [(I a3.1),u4]]),(fun l w=>∃b7:Nat,∃b8:Nat,∃o2:Nat,SubL [(5,(ptr b3 0)),(6,(ptr b4 0)),(8,(ptr b5 0)),(9,(I x7)),(10,(I x12)),(38,u3),(39,(I (List.length a2.2:Int))),(40,(I x7)),(52,(.bool x13)),(53,(ptr b5 0)),(56,(.slice (some ⟨b7,0,none⟩) 1 1)),(59,v5),(64,(I x21))] l∧ROAt [] w0 b8 o2 x21∧Ctx [] w0 w [Ad (.slice (some ⟨b7,0,none⟩) 1 1) ([x12]:(List Int)),Ad v7 (x6:(List Int)),Ad v6 (x5:(List Int)),Ai b5 [v4,v5],Ad v4 (x3:(List Int)),Ad v5 (x4:(List Int)),Ai b4 [v6,v7],Ai b3 [(I a3.1),u4]]),(fun l w=>∃b7:Nat,∃b8:Nat,∃o2:Nat,∃b9:Nat,SubL [(5,(ptr b3 0)),(6,(ptr b4 0)),(8,(ptr b5 0)),(9,(I x7)),(10,(I x12)),(38,u3),(39,(I (List.length a2.2:Int))),(40,(I x7)),(52,(.bool x13)),(53,(ptr b5 0)),(56,(.slice (some ⟨b7,0,none⟩) 1 1)),(58,(ptr b5 1)),(65,(.slice (some ⟨b9,0,none⟩) 1 1))] l∧ROAt [] w0 b8 o2 x21∧Ctx [] w0 w [Ad (.slice (some ⟨b9,0,none⟩) 1 1) ([x21]:(List Int)),Ad (.slice (some ⟨b7,0,none⟩) 1 1) ([x12]:(List Int)),Ad v7 (x6:(List Int)),Ad v6 (x5:(List Int)),Ai b5 [v4,v5],Ad v4 (x3:(List Int)),Ad v5 (x4:(List Int)),Ai b4 [v6,v7],Ai b3 [(I a3.1),u4]]),(fun l w=>∃b8:Nat,∃o2:Nat,∃b9:Nat,SubL [(5,(ptr b3 0)),(6,(ptr b4 0)),(8,(ptr b5 0)),(9,(I x7)),(10,(I x12)),(38,u3),(39,(I (List.length a2.2:Int))),(40,(I x7)),(52,(.bool x13)),(53,(ptr b5 0)),(55,(I x12)),(59,v5),(65,(.slice (some ⟨b9,0,none⟩) 1 1))] l∧ROAt [] w0 b8 o2 x21∧Ctx [] w0 w [Ad (.slice (some ⟨b9,0,none⟩) 1 1) ([x21]:(List Int)),Ad v7 (x6:(List Int)),Ad v6 (x5:(List Int)),Ai b5 [v4,v5],Ad v4 (x3:(List Int)),Ad v5 (x4:(List Int)),Ai b4 [v6,v7],Ai b3 [(I a3.1),u4]]),(fun l w=>∃b7:Nat,∃v17:Value,∃b8:Nat,∃o2:Nat,SubL [(5,(ptr b3 0)),(6,(ptr b4 0)),(8,(ptr b5 0)),(9,(I x7)),(10,(I x12)),(38,u3),(39,(I (List.length a2.2:Int))),(40,(I x7)),(52,(.bool x13)),(57,v17),(59,v5),(63,(ptr b8 o2))] l∧ROAt [] w0 b8 o2 x21∧Ctx [] w0 w [Ad (.slice (some ⟨b7,0,none⟩) 1 1) ([x12]:(List Int)),Ad v7 (x6:(List Int)),Ad v6 (x5:(List Int)),Ai b5 [v4,v5],Ad v17 (x20:(List Int)),Ad v5 (x4:(List Int)),Ai b4 [v6,v7],Ai b3 [(I a3.1),u4]]),(fun l w=>∃b7:Nat,∃v17:Value,SubL [(5,(ptr b3 0)),(6,(ptr b4 0)),(8,(ptr b5 0)),(9,(I x7)),(10,(I x12)),(38,u3),(39,(I (List.length a2.2:Int))),(40,(I x7)),(52,(.bool x13)),(57,v17),(59,v5),(61,u4),(62,(I x7)),(67,(ptr b5 0))] l∧Ctx [] w0 w [Ad (.slice (some ⟨b7,0,none⟩) 1 1) ([x12]:(List Int)),Ad v7 (x6:(List Int)),Ad v6 (x5:(List Int)),Ai b5 [v4,v5],Ad v17 (x20:(List Int)),Ad v5 (x4:(List Int)),Ai b4 [v6,v7],Ai b3 [(I a3.1),u4]]),(fun l w=>∃b7:Nat,∃v17:Value,∃b8:Nat,∃o2:Nat,SubL [(5,(ptr b3 0)),(6,(ptr b4 0)),(8,(ptr b5 0)),(9,(I x7)),(10,(I x12)),(38,u3),(39,(I (List.length a2.2:Int))),(40,(I x7)),(52,(.bool x13)),(57,v17),(58,(ptr b5 1)),(64,(I x21))] l∧ROAt [] w0 b8 o2 x21∧Ctx [] w0 w [Ad (.slice (some ⟨b7,0,none⟩) 1 1) ([x12]:(List Int)),Ad v7 (x6:(List Int)),Ad v6 (x5:(List Int)),Ai b5 [v4,v5],Ad v17 (x20:(List Int)),Ad v5 (x4:(List Int)),Ai b4 [v6,v7],Ai b3 [(I a3.1),u4]]),(fun l w=>∃b7:Nat,∃b8:Nat,∃o2:Nat,SubL [(5,(ptr b3 0)),(6,(ptr b4 0)),(8,(ptr b5 0)),(9,(I x7)),(10,(I x12)),(38,u3),(39,(I (List.length a2.2:Int))),(40,(I x7)),(52,(.bool x13)),(54,v4),(56,(.slice (some ⟨b7,0,none⟩) 1 1)),(59,v5),(64,(I x21))] l∧ROAt [] w0 b8 o2 x21∧Ctx [] w0 w [Ad (.slice (some ⟨b7,0,none⟩) 1 1) ([x12]:(List Int)),Ad v7 (x6:(List Int)),Ad v6 (x5:(List Int)),Ai b5 [v4,v5],Ad v4 (x3:(List Int)),Ad v5 (x4:(List Int)),Ai b4 [v6,v7],Ai b3 [(I a3.1),u4]]),(fun l w=>∃b7:Nat,∃b8:Nat,∃o2:Nat,∃b9:Nat,SubL [(5,(ptr b3 0)),(6,(ptr b4 0)),(8,(ptr b5 0)),(9,(I x7)),(10,(I x12)),(38,u3),(39,(I (List.length a2.2:Int))),(40,(I x7)),(52,(.bool x13)),(54,v4),(56,(.slice (some ⟨b7,0,none⟩) 1 1)),(58,(ptr b5 1)),(65,(.slice (some ⟨b9,0,none⟩) 1 1))] l∧ROAt [] w0 b8 o2 x21∧Ctx [] w0 w [Ad (.slice (some ⟨b9,0,none⟩) 1 1) ([x21]:(List Int)),Ad (.slice (some ⟨b7,0,none⟩) 1 1) ([x12]:(List Int)),Ad v7 (x6:(List Int)),Ad v6 (x5:(List Int)),Ai b5 [v4,v5],Ad v4 (x3:(List Int)),Ad v5 (x4:(List Int)),Ai b4 [v6,v7],Ai b3 [(I a3.1),u4]]),(fun l w=>∃b8:Nat,∃o2:Nat,∃b9:Nat,SubL [(5,(ptr b3 0)),(6,(ptr b4 0)),(8,(ptr b5 0)),(9,(I x7)),(10,(I x12)),(38,u3),(39,(I (List.length a2.2:Int))),(40,(I x7)),(52,(.bool x13)),(54,v4),(55,(I x12)),(59,v5),(65,(.slice (some ⟨b9,0,none⟩) 1 1))] l∧ROAt [] w0 b8 o2 x21∧Ctx [] w0 w [Ad (.slice (some ⟨b9,0,none⟩) 1 1) ([x21]:(List Int)),Ad v7 (x6:(List Int)),Ad v6 (x5:(List Int)),Ai b5 [v4,v5],Ad v4 (x3:(List Int)),Ad v5 (x4:(List Int)),Ai b4 [v6,v7],Ai b3 [(I a3.1),u4]]),(fun l w=>∃b7:Nat,∃b8:Nat,∃o2:Nat,∃b9:Nat,SubL [(5,(ptr b3 0)),(6,(ptr b4 0)),(8,(ptr b5 0)),(9,(I x7)),(10,(I x12)),(38,u3),(39,(I (List.length a2.2:Int))),(40,(I x7)),(52,(.bool x13)),(53,(ptr b5 0)),(56,(.slice (some ⟨b7,0,none⟩) 1 1)),(59,v5),(65,(.slice (some ⟨b9,0,none⟩) 1 1))] l∧ROAt [] w0 b8 o2 x21∧Ctx [] w0 w [Ad (.slice (some ⟨b9,0,none⟩) 1 1) ([x21]:(List Int)),Ad (.slice (some ⟨b7,0,none⟩) 1 1) ([x12]:(List Int)),Ad v7 (x6:(List Int)),Ad v6 (x5:(List Int)),Ai b5 [v4,v5],Ad v4 (x3:(List Int)),Ad v5 (x4:(List Int)),Ai b4 [v6,v7],Ai b3 [(I a3.1),u4]]),(fun l w=>∃b7:Nat,∃v17:Value,∃b8:Nat,∃o2:Nat,SubL [(5,(ptr b3 0)),(6,(ptr b4 0)),(8,(ptr b5 0)),(9,(I x7)),(10,(I x12)),(38,u3),(39,(I (List.length a2.2:Int))),(40,(I x7)),(52,(.bool x13)),(57,v17),(59,v5),(64,(I x21))] l∧ROAt [] w0 b8 o2 x21∧Ctx [] w0 w [Ad (.slice (some ⟨b7,0,none⟩) 1 1) ([x12]:(List Int)),Ad v7 (x6:(List Int)),Ad v6 (x5:(List Int)),Ai b5 [v4,v5],Ad v17 (x20:(List Int)),Ad v5 (x4:(List Int)),Ai b4 [v6,v7],Ai b3 [(I a3.1),u4]]),(fun l w=>∃b7:Nat,∃v17:Value,∃b8:Nat,∃o2:Nat,SubL [(5,(ptr b3 0)),(6,(ptr b4 0)),(8,(ptr b5 0)),(9,(I x7)),(10,(I x12)),(38,u3),(39,(I (List.length a2.2:Int))),(40,(I x7)),(52,(.bool x13)),(57,v17),(59,v5),(63,(ptr b8 o2)),(67,(ptr b5 0))] l∧ROAt [] w0 b8 o2 x21∧Ctx [] w0 w [Ad (.slice (some ⟨b7,0,none⟩) 1 1) ([x12]:(List Int)),Ad v7 (x6:(List Int)),Ad v6 (x5:(List Int)),Ai b5 [v4,v5],Ad v17 (x20:(List Int)),Ad v5 (x4:(List Int)),Ai b4 [v6,v7],Ai b3 [(I a3.1),u4]]),(fun l w=>∃b7:Nat,∃v17:Value,∃b8:Nat,∃o2:Nat,∃b9:Nat,SubL [(5,(ptr b3 0)),(6,(ptr b4 0)),(8,(ptr b5 0)),(9,(I x7)),(10,(I x12)),(38,u3),(39,(I (List.length a2.2:Int))),(40,(I x7)),(52,(.bool x13)),(57,v17),(58,(ptr b5 1)),(65,(.slice (some ⟨b9,0,none⟩) 1 1))] l∧ROAt [] w0 b8 o2 x21∧Ctx [] w0 w [Ad (.slice (some ⟨b9,0,none⟩) 1 1) ([x21]:(List Int)),Ad (.slice (some ⟨b7,0,none⟩) 1 1) ([x12]:(List Int)),Ad v7 (x6:(List Int)),Ad v6 (x5:(List Int)),Ai b5 [v4,v5],Ad v17 (x20:(List Int)),Ad v5 (x4:(List Int)),Ai b4 [v6,v7],Ai b3 [(I a3.1),u4]]),(fun l w=>∃b7:Nat,∃b8:Nat,∃o2:Nat,∃b9:Nat,SubL [(5,(ptr b3 0)),(6,(ptr b4 0)),(8,(ptr b5 0)),(9,(I x7)),(10,(I x12)),(38,u3),(39,(I (List.length a2.2:Int))),(40,(I x7)),(52,(.bool x13)),(54,v4),(56,(.slice (some ⟨b7,0,none⟩) 1 1)),(59,v5),(65,(.slice (some ⟨b9,0,none⟩) 1 1))] l∧ROAt [] w0 b8 o2 x21∧Ctx [] w0 w [Ad (.slice (some ⟨b9,0,none⟩) 1 1) ([x21]:(List Int)),Ad (.slice (some ⟨b7,0,none⟩) 1 1) ([x12]:(List Int)),Ad v7 (x6:(List Int)),Ad v6 (x5:(List Int)),Ai b5 [v4,v5],Ad v4 (x3:(List Int)),Ad v5 (x4:(List Int)),Ai b4 [v6,v7],Ai b3 [(I a3.1),u4]]),(fun l w=>∃b7:Nat,∃v17:Value,∃b8:Nat,∃o2:Nat,∃b9:Nat,SubL [(5,(ptr b3 0)),(6,(ptr b4 0)),(8,(ptr b5 0)),(9,(I x7)),(10,(I x12)),(38,u3),(39,(I (List.length a2.2:Int))),(40,(I x7)),(52,(.bool x13)),(57,v17),(59,v5),(65,(.slice (some ⟨b9,0,none⟩) 1 1))] l∧ROAt [] w0 b8 o2 x21∧Ctx [] w0 w [Ad (.slice (some ⟨b9,0,none⟩) 1 1) ([x21]:(List Int)),Ad (.slice (some ⟨b7,0,none⟩) 1 1) ([x12]:(List Int)),Ad v7 (x6:(List Int)),Ad v6 (x5:(List Int)),Ai b5 [v4,v5],Ad v17 (x20:(List Int)),Ad v5 (x4:(List Int)),Ai b4 [v6,v7],Ai b3 [(I a3.1),u4]]),(fun l w=>∃b7:Nat,∃v17:Value,∃b8:Nat,∃o2:Nat,SubL [(5,(ptr b3 0)),(6,(ptr b4 0)),(8,(ptr b5 0)),(9,(I x7)),(10,(I x12)),(38,u3),(39,(I (List.length a2.2:Int))),(40,(I x7)),(52,(.bool x13)),(57,v17),(59,v5),(64,(I x21)),(67,(ptr b5 0))] l∧ROAt [] w0 b8 o2 x21∧Ctx [] w0 w [Ad (.slice (some ⟨b7,0,none⟩) 1 1) ([x12]:(List Int)),Ad v7 (x6:(List Int)),Ad v6 (x5:(List Int)),Ai b5 [v4,v5],Ad v17 (x20:(List Int)),Ad v5 (x4:(List Int)),Ai b4 [v6,v7],Ai b3 [(I a3.1),u4]]),(fun l w=>∃b7:Nat,∃v17:Value,∃b8:Nat,∃o2:Nat,∃b9:Nat,∃v19:Value,SubL [(5,(ptr b3 0)),(6,(ptr b4 0)),(8,(ptr b5 0)),(9,(I x7)),(10,(I x12)),(38,u3),(39,(I (List.length a2.2:Int))),(40,(I x7)),(52,(.bool x13)),(57,v17),(66,v19)] l∧ROAt [] w0 b8 o2 x21∧Ctx [] w0 w [Ad (.slice (some ⟨b9,0,none⟩) 1 1) ([x21]:(List Int)),Ad (.slice (some ⟨b7,0,none⟩) 1 1) ([x12]:(List Int)),Ad v7 (x6:(List Int)),Ad v6 (x5:(List Int)),Ai b5 [v4,v5],Ad v17 (x20:(List Int)),Ad v19 (x22:(List Int)),Ai b4 [v6,v7],Ai b3 [(I a3.1),u4]]),(fun l w=>∃b7:Nat,∃v17:Value,∃b8:Nat,∃o2:Nat,∃b9:Nat,SubL [(5,(ptr b3 0)),(6,(ptr b4 0)),(8,(ptr b5 0)),(9,(I x7)),(10,(I x12)),(38,u3),(39,(I (List.length a2.2:Int))),(40,(I x7)),(52,(.bool x13)),(57,v17),(59,v5),(65,(.slice (some ⟨b9,0,none⟩) 1 1)),(67,(ptr b5 0))] l∧ROAt [] w0 b8 o2 x21∧Ctx [] w0 w [Ad (.slice (some ⟨b9,0,none⟩) 1 1) ([x21]:(List Int)),Ad (.slice (some ⟨b7,0,none⟩) 1 1) ([x12]:(List Int)),Ad v7 (x6:(List Int)),Ad v6 (x5:(List Int)),Ai b5 [v4,v5],Ad v17 (x20:(List Int)),Ad v5 (x4:(List Int)),Ai b4 [v6,v7],Ai b3 [(I a3.1),u4]]),(fun l w=>∃b7:Nat,∃v17:Value,∃b8:Nat,∃o2:Nat,∃b9:Nat,∃v19:Value,SubL [(5,(ptr b3 0)),(6,(ptr b4 0)),(8,(ptr b5 0)),(9,(I x7)),(10,(I x12)),(38,u3),(39,(I (List.length a2.2:Int))),(40,(I x7)),(52,(.bool x13)),(57,v17),(66,v19),(67,(ptr b5 0))] l∧ROAt [] w0 b8 o2 x21∧Ctx [] w0 w [Ad (.slice (some ⟨b9,0,none⟩) 1 1) ([x21]:(List Int)),Ad (.slice (some ⟨b7,0,none⟩) 1 1) ([x12]:(List Int)),Ad v7 (x6:(List Int)),Ad v6 (x5:(List Int)),Ai b5 [v4,v5],Ad v17 (x20:(List Int)),Ad v19 (x22:(List Int)),Ai b4 [v6,v7],Ai b3 [(I a3.1),u4]])] [(677,10),(679,9),(685,9),(741,9),(933,9),(687,8),(743,8),(935,8),(749,8),(941,8),(997,8),(1957,8),(703,7),(751,7),(943,7),(999,7),(1959,7),(1005,7),(1965,7),(2021,7),(4005,7),(767,6),(959,6),(1007,6),(1967,6),(2023,6),(4007,6),(2029,6),(4013,6),(4069,6),(8101,6),(1023,5),(17151,5),(1983,5),(2031,5),(4015,5),(4071,5),(8103,5),(4077,5),(8109,5),(8165,5),(2047,4),(17407,4),(4031,4),(4079,4),(8111,4),(8167,4),(8173,4),(4095,3),(18431,3),(8127,3),(8175,3),(8191,2),(20479,2),(16383,1),(24575,1),(32767,0)] [(0,1,1),(0,3,2),(0,6,3),(0,8,4),(1,3,5),(1,6,6),(1,8,7),(2,1,5),(2,6,8),(2,8,9),(3,1,6),(3,3,8),(3,8,10),(4,1,7),(4,3,9),(4,6,10),(4,10,11),(5,4,12),(5,6,13),(5,8,14),(6,3,13),(6,8,15),(7,3,14),(7,6,15),(7,10,16),(8,1,13),(8,8,17),(9,1,14),(9,6,17),(9,10,18),(10,1,15),(10,3,17),(10,10,19),(11,1,16),(11,3,18),(11,6,19),(11,11,20),(12,6,21),(12,8,22),(13,4,21),(13,8,23),(14,4,22),(14,6,23),(14,10,24),(15,3,23),(15,10,25),(16,3,24),(16,6,25),(16,11,26),(17,1,23),(17,10,27),(18,1,24),(18,6,27),(18,11,28),(19,1,25),(19,3,27),(19,11,29),(20,1,26),(20,3,28),(20,6,29),(20,12,30),(21,8,31),(21,14,32),(22,6,31),(22,10,33),(23,4,31),(23,10,34),(24,4,33),(24,6,34),(24,11,35),(25,3,34),(25,11,36),(26,3,35),(26,6,36),(26,12,37),(27,1,34),(27,11,38),(28,1,35),(28,6,38),(28,12,39),(29,1,36),(29,3,38),(29,12,40),(30,1,37),(30,3,39),(30,6,40),(31,10,41),(31,14,42),(32,8,42),(33,6,41),(33,11,43),(34,4,41),(34,11,44),(35,4,43),(35,6,44),(35,12,45),(36,3,44),(36,12,46),(37,3,45),(37,6,46),(38,1,44),(38,12,47),(39,1,45),(39,6,47),(40,1,46),(40,3,47),(41,11,48),(41,14,49),(42,10,49),(43,6,48),(43,12,50),(44,4,48),(44,12,51),(45,4,50),(45,6,51),(46,3,51),(47,1,51),(48,12,52),(48,14,53),(49,11,53),(50,6,52),(51,4,52),(52,13,54),(52,14,55),(53,12,55),(54,14,56),(55,13,56)] 0 56 3 677 10 32767 z z z z z ?_ ?_ ?_
       ·exact ⟨⟨z,z,z,z,z,z,z,z,z,z,z,z,z,z,Ah⟩,hC21⟩
       ·refine ⟨⟨_,_,z,z,?_⟩,?_⟩
        ·rintro _ wD ⟨hsD,hCD⟩
         refine ⟨_,z,WL.sub ?_ hsD⟩
         exact Al hCD 2 z z At z z<|Ab<|⟨⟨z,z,z,z,z,z,z,z,z,z,z,z,z,z,Ah⟩,hCD⟩
        refine ⟨⟨_,_,z,z,?_⟩,?_⟩
        ·rintro _ wD ⟨hsD,hCD⟩
         refine ⟨_,z,WL.sub ?_ hsD⟩
         refine A8 (vs:=[(I x12)]) hCD Ag ty3 z z z z (fac z<|fa0) z z (fun b7 w18 hC22 hB15=>?_)
         have hC23:=hC22.row0 (α:=Int)
         have hC24:=hC23.triv (B2 (x12))
         have hC25:=hC24.row1
         have hC26:=hC25.front 1 z
         dsimp only [List.eraseIdx,List.cons_append,List.nil_append,List.append_nil] at hC26
         have hC27:Ctx [] w0 w18 (Ad (.slice (some ⟨b7,0,none⟩) 1 1) ([x12]:List Int)::[Ad v7 (x6:(List Int)),Ad v6 (x5:(List Int)),Ai b5 [v4,v5],Ad v4 (x3:(List Int)),Ad v5 (x4:(List Int)),Ai b4 [v6,v7],Ai b3 [(I a3.1),u4]]):=hC26.rowOwn (by simp [maxLen])
         exact Ab<|⟨b7,⟨z,z,z,z,z,z,z,z,z,z,z,z,z,z,Ah⟩,hC27⟩
        refine ⟨⟨_,_,z,z,?_⟩,?_⟩
        ·rintro _ wD ⟨hsD,hCD⟩
         refine ⟨_,z,WL.sub ?_ hsD⟩
         exact Al hCD 2 z z At z z<|Ab<|⟨⟨z,z,z,z,z,z,z,z,z,z,z,z,z,z,Ah⟩,hCD⟩
        refine ⟨⟨_,_,z,z,?_⟩,?_⟩
        ·rintro _ wD ⟨hsD,hCD⟩
         refine ⟨_,z,WL.sub ?_ hsD⟩
         exact Al hCD 6 z z At z z<|Ab<|⟨⟨z,z,z,z,z,z,z,z,z,z,z,z,z,z,Ah⟩,hCD⟩
        refine ⟨⟨_,_,z,z,?_⟩,?_⟩
        ·rintro _ wD ⟨hsD,hCD⟩
         refine ⟨_,z,WL.sub ?_ hsD⟩
         refine A8 (vs:=[(I x12)]) hCD Ag ty3 z z z z (fac z<|fa0) z z (fun b7 w18 hC22 hB15=>?_)
         have hC23:=hC22.row0 (α:=Int)
         have hC24:=hC23.triv (B2 (x12))
         have hC25:=hC24.row1
         have hC26:=hC25.front 1 z
         dsimp only [List.eraseIdx,List.cons_append,List.nil_append,List.append_nil] at hC26
         have hC27:Ctx [] w0 w18 (Ad (.slice (some ⟨b7,0,none⟩) 1 1) ([x12]:List Int)::[Ad v7 (x6:(List Int)),Ad v6 (x5:(List Int)),Ai b5 [v4,v5],Ad v4 (x3:(List Int)),Ad v5 (x4:(List Int)),Ai b4 [v6,v7],Ai b3 [(I a3.1),u4]]):=hC26.rowOwn (by simp [maxLen])
         exact Ab<|⟨b7,⟨z,z,z,z,z,z,z,z,z,z,z,z,z,z,Ah⟩,hC27⟩
        refine ⟨⟨_,_,z,z,?_⟩,?_⟩
        ·rintro _ wD ⟨hsD,hCD⟩
         refine ⟨_,z,WL.sub ?_ hsD⟩
         exact Al hCD 2 z z At z z<|Ab<|⟨⟨z,z,z,z,z,z,z,z,z,z,z,z,z,z,Ah⟩,hCD⟩
        refine ⟨⟨_,_,z,z,?_⟩,?_⟩
        ·rintro _ wD ⟨hsD,hCD⟩
         refine ⟨_,z,WL.sub ?_ hsD⟩
         exact Al hCD 6 z z At z z<|Ab<|⟨⟨z,z,z,z,z,z,z,z,z,z,z,z,z,z,Ah⟩,hCD⟩
        refine ⟨⟨_,_,z,z,?_⟩,?_⟩
        ·rintro _ wD ⟨b7,hsD,hCD⟩
         refine ⟨_,z,WL.sub ?_ hsD⟩
         exact Al hCD 3 z z At z z<|Ab<|⟨b7,⟨z,z,z,z,z,z,z,z,z,z,z,z,z,z,Ah⟩,hCD⟩
        refine ⟨⟨_,_,z,z,?_⟩,?_⟩
        ·rintro _ wD ⟨b7,hsD,hCD⟩
         refine ⟨_,z,WL.sub ?_ hsD⟩
         exact Al hCD 3 z z At z z<|Ab<|⟨b7,⟨z,z,z,z,z,z,z,z,z,z,z,z,z,z,Ah⟩,hCD⟩
        refine ⟨⟨_,_,z,z,?_⟩,?_⟩
        ·rintro _ wD ⟨b7,hsD,hCD⟩
         refine ⟨_,z,WL.sub ?_ hsD⟩
         exact Al hCD 7 z z At z z<|Ab<|⟨b7,⟨z,z,z,z,z,z,z,z,z,z,z,z,z,z,Ah⟩,hCD⟩
        refine ⟨⟨_,_,z,z,?_⟩,?_⟩
        ·rintro _ wD ⟨hsD,hCD⟩
         refine ⟨_,z,WL.sub ?_ hsD⟩
         exact Al hCD 2 z z At z z<|Ab<|⟨⟨z,z,z,z,z,z,z,z,z,z,z,z,z,z,Ah⟩,hCD⟩
        refine ⟨⟨_,_,z,z,?_⟩,?_⟩
        ·rintro _ wD ⟨hsD,hCD⟩
         refine ⟨_,z,WL.sub ?_ hsD⟩
         refine A8 (vs:=[(I x12)]) hCD Ag ty3 z z z z (fac z<|fa0) z z (fun b7 w18 hC22 hB15=>?_)
         have hC23:=hC22.row0 (α:=Int)
         have hC24:=hC23.triv (B2 (x12))
         have hC25:=hC24.row1
         have hC26:=hC25.front 1 z
         dsimp only [List.eraseIdx,List.cons_append,List.nil_append,List.append_nil] at hC26
         have hC27:Ctx [] w0 w18 (Ad (.slice (some ⟨b7,0,none⟩) 1 1) ([x12]:List Int)::[Ad v7 (x6:(List Int)),Ad v6 (x5:(List Int)),Ai b5 [v4,v5],Ad v4 (x3:(List Int)),Ad v5 (x4:(List Int)),Ai b4 [v6,v7],Ai b3 [(I a3.1),u4]]):=hC26.rowOwn (by simp [maxLen])
         exact Ab<|⟨b7,⟨z,z,z,z,z,z,z,z,z,z,z,z,z,z,Ah⟩,hC27⟩
        refine ⟨⟨_,_,z,z,?_⟩,?_⟩
        ·rintro _ wD ⟨hsD,hCD⟩
         refine ⟨_,z,WL.sub ?_ hsD⟩
         exact Al hCD 6 z z At z z<|Ab<|⟨⟨z,z,z,z,z,z,z,z,z,z,z,z,z,z,Ah⟩,hCD⟩
        refine ⟨⟨_,_,z,z,?_⟩,?_⟩
        ·rintro _ wD ⟨hsD,hCD⟩
         refine ⟨_,z,WL.sub ?_ hsD⟩
         exact Al hCD 2 z z At z z<|Ab<|⟨⟨z,z,z,z,z,z,z,z,z,z,z,z,z,z,Ah⟩,hCD⟩
        refine ⟨⟨_,_,z,z,?_⟩,?_⟩
        ·rintro _ wD ⟨hsD,hCD⟩
         refine ⟨_,z,WL.sub ?_ hsD⟩
         refine A8 (vs:=[(I x12)]) hCD Ag ty3 z z z z (fac z<|fa0) z z (fun b7 w18 hC22 hB15=>?_)
         have hC23:=hC22.row0 (α:=Int)
         have hC24:=hC23.triv (B2 (x12))
         have hC25:=hC24.row1
         have hC26:=hC25.front 1 z
         dsimp only [List.eraseIdx,List.cons_append,List.nil_append,List.append_nil] at hC26
         have hC27:Ctx [] w0 w18 (Ad (.slice (some ⟨b7,0,none⟩) 1 1) ([x12]:List Int)::[Ad v7 (x6:(List Int)),Ad v6 (x5:(List Int)),Ai b5 [v4,v5],Ad v4 (x3:(List Int)),Ad v5 (x4:(List Int)),Ai b4 [v6,v7],Ai b3 [(I a3.1),u4]]):=hC26.rowOwn (by simp [maxLen])
         exact Ab<|⟨b7,⟨z,z,z,z,z,z,z,z,z,z,z,z,z,z,Ah⟩,hC27⟩
        refine ⟨⟨_,_,z,z,?_⟩,?_⟩
        ·rintro _ wD ⟨hsD,hCD⟩
         refine ⟨_,z,WL.sub ?_ hsD⟩
         exact Al hCD 2 z z At z z<|Ab<|⟨⟨z,z,z,z,z,z,z,z,z,z,z,z,z,z,Ah⟩,hCD⟩
        refine ⟨⟨_,_,z,z,?_⟩,?_⟩
        ·rintro _ wD ⟨hsD,hCD⟩
         refine ⟨_,z,WL.sub ?_ hsD⟩
         exact AE Ag ty3 g4 hx3 z z z fun b8 o2 h3=>Ab<|⟨b8,o2,⟨z,z,z,z,z,z,z,z,z,z,z,z,z,Ah⟩,h3,hCD⟩
        refine ⟨⟨_,_,z,z,?_⟩,?_⟩
        ·rintro _ wD ⟨b7,hsD,hCD⟩
         refine ⟨_,z,WL.sub ?_ hsD⟩
         refine Bt (α:=Int) hCD 4 z (hCD.ro 0 z) (AP _ _) Ag ty3 z hx2 z z z (fun v17 w19 hC28=>?_)
         try dsimp only [List.set] at hC28
         exact Ab<|⟨b7,v17,⟨z,z,z,z,z,z,z,z,z,z,z,z,z,Ah⟩,hC28⟩
        refine ⟨⟨_,_,z,z,?_⟩,?_⟩
        ·rintro _ wD ⟨b7,hsD,hCD⟩
         refine ⟨_,z,WL.sub ?_ hsD⟩
         exact Al hCD 3 z z At z z<|Ab<|⟨b7,⟨z,z,z,z,z,z,z,z,z,z,z,z,z,z,Ah⟩,hCD⟩
        refine ⟨⟨_,_,z,z,?_⟩,?_⟩
        ·rintro _ wD ⟨b7,hsD,hCD⟩
         refine ⟨_,z,WL.sub ?_ hsD⟩
         exact Al hCD 7 z z At z z<|Ab<|⟨b7,⟨z,z,z,z,z,z,z,z,z,z,z,z,z,z,Ah⟩,hCD⟩
        refine ⟨⟨_,_,z,z,?_⟩,?_⟩
        ·rintro _ wD ⟨hsD,hCD⟩
         refine ⟨_,z,WL.sub ?_ hsD⟩
         refine A8 (vs:=[(I x12)]) hCD Ag ty3 z z z z (fac z<|fa0) z z (fun b7 w18 hC22 hB15=>?_)
         have hC23:=hC22.row0 (α:=Int)
         have hC24:=hC23.triv (B2 (x12))
         have hC25:=hC24.row1
         have hC26:=hC25.front 1 z
         dsimp only [List.eraseIdx,List.cons_append,List.nil_append,List.append_nil] at hC26
         have hC27:Ctx [] w0 w18 (Ad (.slice (some ⟨b7,0,none⟩) 1 1) ([x12]:List Int)::[Ad v7 (x6:(List Int)),Ad v6 (x5:(List Int)),Ai b5 [v4,v5],Ad v4 (x3:(List Int)),Ad v5 (x4:(List Int)),Ai b4 [v6,v7],Ai b3 [(I a3.1),u4]]):=hC26.rowOwn (by simp [maxLen])
         exact Ab<|⟨b7,⟨z,z,z,z,z,z,z,z,z,z,z,z,z,z,Ah⟩,hC27⟩
        refine ⟨⟨_,_,z,z,?_⟩,?_⟩
        ·rintro _ wD ⟨hsD,hCD⟩
         refine ⟨_,z,WL.sub ?_ hsD⟩
         exact Al hCD 6 z z At z z<|Ab<|⟨⟨z,z,z,z,z,z,z,z,z,z,z,z,z,z,Ah⟩,hCD⟩
        refine ⟨⟨_,_,z,z,?_⟩,?_⟩
        ·rintro _ wD ⟨hsD,hCD⟩
         refine ⟨_,z,WL.sub ?_ hsD⟩
         refine A8 (vs:=[(I x12)]) hCD Ag ty3 z z z z (fac z<|fa0) z z (fun b7 w18 hC22 hB15=>?_)
         have hC23:=hC22.row0 (α:=Int)
         have hC24:=hC23.triv (B2 (x12))
         have hC25:=hC24.row1
         have hC26:=hC25.front 1 z
         dsimp only [List.eraseIdx,List.cons_append,List.nil_append,List.append_nil] at hC26
         have hC27:Ctx [] w0 w18 (Ad (.slice (some ⟨b7,0,none⟩) 1 1) ([x12]:List Int)::[Ad v7 (x6:(List Int)),Ad v6 (x5:(List Int)),Ai b5 [v4,v5],Ad v4 (x3:(List Int)),Ad v5 (x4:(List Int)),Ai b4 [v6,v7],Ai b3 [(I a3.1),u4]]):=hC26.rowOwn (by simp [maxLen])
         exact Ab<|⟨b7,⟨z,z,z,z,z,z,z,z,z,z,z,z,z,z,Ah⟩,hC27⟩
        refine ⟨⟨_,_,z,z,?_⟩,?_⟩
        ·rintro _ wD ⟨hsD,hCD⟩
         refine ⟨_,z,WL.sub ?_ hsD⟩
         exact Al hCD 2 z z At z z<|Ab<|⟨⟨z,z,z,z,z,z,z,z,z,z,z,z,z,z,Ah⟩,hCD⟩
        refine ⟨⟨_,_,z,z,?_⟩,?_⟩
        ·rintro _ wD ⟨hsD,hCD⟩
         refine ⟨_,z,WL.sub ?_ hsD⟩
         exact AE Ag ty3 g4 hx3 z z z fun b8 o2 h3=>Ab<|⟨b8,o2,⟨z,z,z,z,z,z,z,z,z,z,z,z,z,Ah⟩,h3,hCD⟩
        refine ⟨⟨_,_,z,z,?_⟩,?_⟩
        ·rintro _ wD ⟨b7,hsD,hCD⟩
         refine ⟨_,z,WL.sub ?_ hsD⟩
         exact Al hCD 3 z z At z z<|Ab<|⟨b7,⟨z,z,z,z,z,z,z,z,z,z,z,z,z,z,Ah⟩,hCD⟩
        refine ⟨⟨_,_,z,z,?_⟩,?_⟩
        ·rintro _ wD ⟨b7,hsD,hCD⟩
         refine ⟨_,z,WL.sub ?_ hsD⟩
         exact Al hCD 7 z z At z z<|Ab<|⟨b7,⟨z,z,z,z,z,z,z,z,z,z,z,z,z,z,Ah⟩,hCD⟩
        refine ⟨⟨_,_,z,z,?_⟩,?_⟩
        ·rintro _ wD ⟨b7,hsD,hCD⟩
         refine ⟨_,z,WL.sub ?_ hsD⟩
         exact Al hCD 3 z z At z z<|Ab<|⟨b7,⟨z,z,z,z,z,z,z,z,z,z,z,z,z,z,Ah⟩,hCD⟩
        refine ⟨⟨_,_,z,z,?_⟩,?_⟩
        ·rintro _ wD ⟨b7,hsD,hCD⟩
         refine ⟨_,z,WL.sub ?_ hsD⟩
         exact Al hCD 3 z z At z z<|Ab<|⟨b7,⟨z,z,z,z,z,z,z,z,z,z,z,z,z,z,Ah⟩,hCD⟩
        refine ⟨⟨_,_,z,z,?_⟩,?_⟩
        ·rintro _ wD ⟨b7,hsD,hCD⟩
         refine ⟨_,z,WL.sub ?_ hsD⟩
         exact AE Ag ty3 g4 hx3 z z z fun b8 o2 h3=>Ab<|⟨b7,b8,o2,⟨z,z,z,z,z,z,z,z,z,z,z,z,z,Ah⟩,h3,hCD⟩
        refine ⟨⟨_,_,z,z,?_⟩,?_⟩
        ·rintro _ wD ⟨hsD,hCD⟩
         refine ⟨_,z,WL.sub ?_ hsD⟩
         exact Al hCD 2 z z At z z<|Ab<|⟨⟨z,z,z,z,z,z,z,z,z,z,z,z,z,z,Ah⟩,hCD⟩
        refine ⟨⟨_,_,z,z,?_⟩,?_⟩
        ·rintro _ wD ⟨hsD,hCD⟩
         refine ⟨_,z,WL.sub ?_ hsD⟩
         refine A8 (vs:=[(I x12)]) hCD Ag ty3 z z z z (fac z<|fa0) z z (fun b7 w18 hC22 hB15=>?_)
         have hC23:=hC22.row0 (α:=Int)
         have hC24:=hC23.triv (B2 (x12))
         have hC25:=hC24.row1
         have hC26:=hC25.front 1 z
         dsimp only [List.eraseIdx,List.cons_append,List.nil_append,List.append_nil] at hC26
         have hC27:Ctx [] w0 w18 (Ad (.slice (some ⟨b7,0,none⟩) 1 1) ([x12]:List Int)::[Ad v7 (x6:(List Int)),Ad v6 (x5:(List Int)),Ai b5 [v4,v5],Ad v4 (x3:(List Int)),Ad v5 (x4:(List Int)),Ai b4 [v6,v7],Ai b3 [(I a3.1),u4]]):=hC26.rowOwn (by simp [maxLen])
         exact Ab<|⟨b7,⟨z,z,z,z,z,z,z,z,z,z,z,z,z,z,Ah⟩,hC27⟩
        refine ⟨⟨_,_,z,z,?_⟩,?_⟩
        ·rintro _ wD ⟨hsD,hCD⟩
         refine ⟨_,z,WL.sub ?_ hsD⟩
         exact AE Ag ty3 g4 hx3 z z z fun b8 o2 h3=>Ab<|⟨b8,o2,⟨z,z,z,z,z,z,z,z,z,z,z,z,z,Ah⟩,h3,hCD⟩
        refine ⟨⟨_,_,z,z,?_⟩,?_⟩
        ·rintro _ wD ⟨b8,o2,hsD,h3,hCD⟩
         refine ⟨_,z,WL.sub ?_ hsD⟩
         exact Al hCD 2 z z At z z<|Ab<|⟨b8,o2,⟨z,z,z,z,z,z,z,z,z,z,z,z,z,Ah⟩,h3,hCD⟩
        refine ⟨⟨_,_,z,z,?_⟩,?_⟩
        ·rintro _ wD ⟨b8,o2,hsD,h3,hCD⟩
         refine ⟨_,z,WL.sub ?_ hsD⟩
         refine A8 (vs:=[(I x12)]) hCD Ag ty3 z z z z (fac z<|fa0) z z (fun b7 w18 hC22 hB15=>?_)
         have hC23:=hC22.row0 (α:=Int)
         have hC24:=hC23.triv (B2 (x12))
         have hC25:=hC24.row1
         have hC26:=hC25.front 1 z
         dsimp only [List.eraseIdx,List.cons_append,List.nil_append,List.append_nil] at hC26
         have hC27:Ctx [] w0 w18 (Ad (.slice (some ⟨b7,0,none⟩) 1 1) ([x12]:List Int)::[Ad v7 (x6:(List Int)),Ad v6 (x5:(List Int)),Ai b5 [v4,v5],Ad v4 (x3:(List Int)),Ad v5 (x4:(List Int)),Ai b4 [v6,v7],Ai b3 [(I a3.1),u4]]):=hC26.rowOwn (by simp [maxLen])
         exact Ab<|⟨b7,b8,o2,⟨z,z,z,z,z,z,z,z,z,z,z,z,z,Ah⟩,h3,hC27⟩
        refine ⟨⟨_,_,z,z,?_⟩,?_⟩
        ·rintro _ wD ⟨b8,o2,hsD,h3,hCD⟩
         refine ⟨_,z,WL.sub ?_ hsD⟩
         exact Al hCD 2 z z At z z<|Ab<|⟨b8,o2,⟨z,z,z,z,z,z,z,z,z,z,z,z,z,Ah⟩,h3,hCD⟩
        refine ⟨⟨_,_,z,z,?_⟩,?_⟩
        ·rintro _ wD ⟨b8,o2,hsD,h3,hCD⟩
         refine ⟨_,z,WL.sub ?_ hsD⟩
         refine AH ty3 h3 hCD.keep z z (fun v18 h4=>?_)
         obtain rfl:=By h4
         exact Ab<|⟨b8,o2,⟨z,z,z,z,z,z,z,z,z,z,z,z,z,Ah⟩,h3,hCD⟩
        refine ⟨⟨_,_,z,z,?_⟩,?_⟩
        ·rintro _ wD ⟨b7,v17,hsD,hCD⟩
         refine ⟨_,z,WL.sub ?_ hsD⟩
         exact Al hCD 3 z z At z z<|Ab<|⟨b7,v17,⟨z,z,z,z,z,z,z,z,z,z,z,z,z,Ah⟩,hCD⟩
        refine ⟨⟨_,_,z,z,?_⟩,?_⟩
        ·rintro _ wD ⟨b7,v17,hsD,hCD⟩
         refine ⟨_,z,WL.sub ?_ hsD⟩
         exact Al hCD 7 z z At z z<|Ab<|⟨b7,v17,⟨z,z,z,z,z,z,z,z,z,z,z,z,z,Ah⟩,hCD⟩
        refine ⟨⟨_,_,z,z,?_⟩,?_⟩
        ·rintro _ wD ⟨b7,hsD,hCD⟩
         refine ⟨_,z,WL.sub ?_ hsD⟩
         refine Bt (α:=Int) hCD 4 z (hCD.ro 0 z) (AP _ _) Ag ty3 z hx2 z z z (fun v17 w19 hC28=>?_)
         try dsimp only [List.set] at hC28
         exact Ab<|⟨b7,v17,⟨z,z,z,z,z,z,z,z,z,z,z,z,z,Ah⟩,hC28⟩
        refine ⟨⟨_,_,z,z,?_⟩,?_⟩
        ·rintro _ wD ⟨b7,hsD,hCD⟩
         refine ⟨_,z,WL.sub ?_ hsD⟩
         exact Al hCD 7 z z At z z<|Ab<|⟨b7,⟨z,z,z,z,z,z,z,z,z,z,z,z,z,z,Ah⟩,hCD⟩
        refine ⟨⟨_,_,z,z,?_⟩,?_⟩
        ·rintro _ wD ⟨b7,hsD,hCD⟩
         refine ⟨_,z,WL.sub ?_ hsD⟩
         refine Bt (α:=Int) hCD 4 z (hCD.ro 0 z) (AP _ _) Ag ty3 z hx2 z z z (fun v17 w19 hC28=>?_)
         try dsimp only [List.set] at hC28
         exact Ab<|⟨b7,v17,⟨z,z,z,z,z,z,z,z,z,z,z,z,z,Ah⟩,hC28⟩
        refine ⟨⟨_,_,z,z,?_⟩,?_⟩
        ·rintro _ wD ⟨b7,hsD,hCD⟩
         refine ⟨_,z,WL.sub ?_ hsD⟩
         exact Al hCD 3 z z At z z<|Ab<|⟨b7,⟨z,z,z,z,z,z,z,z,z,z,z,z,z,z,Ah⟩,hCD⟩
        refine ⟨⟨_,_,z,z,?_⟩,?_⟩
        ·rintro _ wD ⟨b7,hsD,hCD⟩
         refine ⟨_,z,WL.sub ?_ hsD⟩
         exact AE Ag ty3 g4 hx3 z z z fun b8 o2 h3=>Ab<|⟨b7,b8,o2,⟨z,z,z,z,z,z,z,z,z,z,z,z,z,Ah⟩,h3,hCD⟩
        refine ⟨⟨_,_,z,z,?_⟩,?_⟩
        ·rintro _ wD ⟨hsD,hCD⟩
         refine ⟨_,z,WL.sub ?_ hsD⟩
         refine A8 (vs:=[(I x12)]) hCD Ag ty3 z z z z (fac z<|fa0) z z (fun b7 w18 hC22 hB15=>?_)
         have hC23:=hC22.row0 (α:=Int)
         have hC24:=hC23.triv (B2 (x12))
         have hC25:=hC24.row1
         have hC26:=hC25.front 1 z
         dsimp only [List.eraseIdx,List.cons_append,List.nil_append,List.append_nil] at hC26
         have hC27:Ctx [] w0 w18 (Ad (.slice (some ⟨b7,0,none⟩) 1 1) ([x12]:List Int)::[Ad v7 (x6:(List Int)),Ad v6 (x5:(List Int)),Ai b5 [v4,v5],Ad v4 (x3:(List Int)),Ad v5 (x4:(List Int)),Ai b4 [v6,v7],Ai b3 [(I a3.1),u4]]):=hC26.rowOwn (by simp [maxLen])
         exact Ab<|⟨b7,⟨z,z,z,z,z,z,z,z,z,z,z,z,z,z,Ah⟩,hC27⟩
        refine ⟨⟨_,_,z,z,?_⟩,?_⟩
        ·rintro _ wD ⟨hsD,hCD⟩
         refine ⟨_,z,WL.sub ?_ hsD⟩
         exact AE Ag ty3 g4 hx3 z z z fun b8 o2 h3=>Ab<|⟨b8,o2,⟨z,z,z,z,z,z,z,z,z,z,z,z,z,Ah⟩,h3,hCD⟩
        refine ⟨⟨_,_,z,z,?_⟩,?_⟩
        ·rintro _ wD ⟨b8,o2,hsD,h3,hCD⟩
         refine ⟨_,z,WL.sub ?_ hsD⟩
         refine A8 (vs:=[(I x12)]) hCD Ag ty3 z z z z (fac z<|fa0) z z (fun b7 w18 hC22 hB15=>?_)
         have hC23:=hC22.row0 (α:=Int)
         have hC24:=hC23.triv (B2 (x12))
         have hC25:=hC24.row1
         have hC26:=hC25.front 1 z
         dsimp only [List.eraseIdx,List.cons_append,List.nil_append,List.append_nil] at hC26
         have hC27:Ctx [] w0 w18 (Ad (.slice (some ⟨b7,0,none⟩) 1 1) ([x12]:List Int)::[Ad v7 (x6:(List Int)),Ad v6 (x5:(List Int)),Ai b5 [v4,v5],Ad v4 (x3:(List Int)),Ad v5 (x4:(List Int)),Ai b4 [v6,v7],Ai b3 [(I a3.1),u4]]):=hC26.rowOwn (by simp [maxLen])
         exact Ab<|⟨b7,b8,o2,⟨z,z,z,z,z,z,z,z,z,z,z,z,z,Ah⟩,h3,hC27⟩
        refine ⟨⟨_,_,z,z,?_⟩,?_⟩
        ·rintro _ wD ⟨b8,o2,hsD,h3,hCD⟩
         refine ⟨_,z,WL.sub ?_ hsD⟩
         exact Al hCD 2 z z At z z<|Ab<|⟨b8,o2,⟨z,z,z,z,z,z,z,z,z,z,z,z,z,Ah⟩,h3,hCD⟩
        refine ⟨⟨_,_,z,z,?_⟩,?_⟩
        ·rintro _ wD ⟨b8,o2,hsD,h3,hCD⟩
         refine ⟨_,z,WL.sub ?_ hsD⟩
         refine AH ty3 h3 hCD.keep z z (fun v18 h4=>?_)
         obtain rfl:=By h4
         exact Ab<|⟨b8,o2,⟨z,z,z,z,z,z,z,z,z,z,z,z,z,Ah⟩,h3,hCD⟩
        refine ⟨⟨_,_,z,z,?_⟩,?_⟩
        ·rintro _ wD ⟨b7,hsD,hCD⟩
         refine ⟨_,z,WL.sub ?_ hsD⟩
         exact Al hCD 3 z z At z z<|Ab<|⟨b7,⟨z,z,z,z,z,z,z,z,z,z,z,z,z,z,Ah⟩,hCD⟩
        refine ⟨⟨_,_,z,z,?_⟩,?_⟩
        ·rintro _ wD ⟨b7,hsD,hCD⟩
         refine ⟨_,z,WL.sub ?_ hsD⟩
         exact AE Ag ty3 g4 hx3 z z z fun b8 o2 h3=>Ab<|⟨b7,b8,o2,⟨z,z,z,z,z,z,z,z,z,z,z,z,z,Ah⟩,h3,hCD⟩
        refine ⟨⟨_,_,z,z,?_⟩,?_⟩
        ·rintro _ wD ⟨b7,b8,o2,hsD,h3,hCD⟩
         refine ⟨_,z,WL.sub ?_ hsD⟩
         exact Al hCD 3 z z At z z<|Ab<|⟨b7,b8,o2,⟨z,z,z,z,z,z,z,z,z,z,z,z,z,Ah⟩,h3,hCD⟩
        refine ⟨⟨_,_,z,z,?_⟩,?_⟩
        ·rintro _ wD ⟨b7,b8,o2,hsD,h3,hCD⟩
         refine ⟨_,z,WL.sub ?_ hsD⟩
         exact Al hCD 3 z z At z z<|Ab<|⟨b7,b8,o2,⟨z,z,z,z,z,z,z,z,z,z,z,z,z,Ah⟩,h3,hCD⟩
        refine ⟨⟨_,_,z,z,?_⟩,?_⟩
        ·rintro _ wD ⟨b7,b8,o2,hsD,h3,hCD⟩
         refine ⟨_,z,WL.sub ?_ hsD⟩
         refine AH ty3 h3 hCD.keep z z (fun v18 h4=>?_)
         obtain rfl:=By h4
         exact Ab<|⟨b7,b8,o2,⟨z,z,z,z,z,z,z,z,z,z,z,z,z,Ah⟩,h3,hCD⟩
        refine ⟨⟨_,_,z,z,?_⟩,?_⟩
        ·rintro _ wD ⟨b8,o2,hsD,h3,hCD⟩
         refine ⟨_,z,WL.sub ?_ hsD⟩
         exact Al hCD 2 z z At z z<|Ab<|⟨b8,o2,⟨z,z,z,z,z,z,z,z,z,z,z,z,z,Ah⟩,h3,hCD⟩
        refine ⟨⟨_,_,z,z,?_⟩,?_⟩
        ·rintro _ wD ⟨b8,o2,hsD,h3,hCD⟩
         refine ⟨_,z,WL.sub ?_ hsD⟩
         refine A8 (vs:=[(I x12)]) hCD Ag ty3 z z z z (fac z<|fa0) z z (fun b7 w18 hC22 hB15=>?_)
         have hC23:=hC22.row0 (α:=Int)
         have hC24:=hC23.triv (B2 (x12))
         have hC25:=hC24.row1
         have hC26:=hC25.front 1 z
         dsimp only [List.eraseIdx,List.cons_append,List.nil_append,List.append_nil] at hC26
         have hC27:Ctx [] w0 w18 (Ad (.slice (some ⟨b7,0,none⟩) 1 1) ([x12]:List Int)::[Ad v7 (x6:(List Int)),Ad v6 (x5:(List Int)),Ai b5 [v4,v5],Ad v4 (x3:(List Int)),Ad v5 (x4:(List Int)),Ai b4 [v6,v7],Ai b3 [(I a3.1),u4]]):=hC26.rowOwn (by simp [maxLen])
         exact Ab<|⟨b7,b8,o2,⟨z,z,z,z,z,z,z,z,z,z,z,z,z,Ah⟩,h3,hC27⟩
        refine ⟨⟨_,_,z,z,?_⟩,?_⟩
        ·rintro _ wD ⟨b8,o2,hsD,h3,hCD⟩
         refine ⟨_,z,WL.sub ?_ hsD⟩
         refine AH ty3 h3 hCD.keep z z (fun v18 h4=>?_)
         obtain rfl:=By h4
         exact Ab<|⟨b8,o2,⟨z,z,z,z,z,z,z,z,z,z,z,z,z,Ah⟩,h3,hCD⟩
        refine ⟨⟨_,_,z,z,?_⟩,?_⟩
        ·rintro _ wD ⟨b8,o2,hsD,h3,hCD⟩
         refine ⟨_,z,WL.sub ?_ hsD⟩
         exact Al hCD 2 z z At z z<|Ab<|⟨b8,o2,⟨z,z,z,z,z,z,z,z,z,z,z,z,z,Ah⟩,h3,hCD⟩
        refine ⟨⟨_,_,z,z,?_⟩,?_⟩
        ·rintro _ wD ⟨b8,o2,hsD,h3,hCD⟩
         refine ⟨_,z,WL.sub ?_ hsD⟩
         refine A8 (vs:=[(I x12)]) hCD Ag ty3 z z z z (fac z<|fa0) z z (fun b7 w18 hC22 hB15=>?_)
         have hC23:=hC22.row0 (α:=Int)
         have hC24:=hC23.triv (B2 (x12))
         have hC25:=hC24.row1
         have hC26:=hC25.front 1 z
         dsimp only [List.eraseIdx,List.cons_append,List.nil_append,List.append_nil] at hC26
         have hC27:Ctx [] w0 w18 (Ad (.slice (some ⟨b7,0,none⟩) 1 1) ([x12]:List Int)::[Ad v7 (x6:(List Int)),Ad v6 (x5:(List Int)),Ai b5 [v4,v5],Ad v4 (x3:(List Int)),Ad v5 (x4:(List Int)),Ai b4 [v6,v7],Ai b3 [(I a3.1),u4]]):=hC26.rowOwn (by simp [maxLen])
         exact Ab<|⟨b7,b8,o2,⟨z,z,z,z,z,z,z,z,z,z,z,z,z,Ah⟩,h3,hC27⟩
        refine ⟨⟨_,_,z,z,?_⟩,?_⟩
        ·rintro _ wD ⟨b8,o2,hsD,h3,hCD⟩
         refine ⟨_,z,WL.sub ?_ hsD⟩
         exact Al hCD 2 z z At z z<|Ab<|⟨b8,o2,⟨z,z,z,z,z,z,z,z,z,z,z,z,z,Ah⟩,h3,hCD⟩
        refine ⟨⟨_,_,z,z,?_⟩,?_⟩
        ·rintro _ wD ⟨b8,o2,hsD,h3,hCD⟩
         refine ⟨_,z,WL.sub ?_ hsD⟩
         refine A8 (vs:=[(I x21)]) hCD Ag ty3 z z z z (fac z<|fa0) z z (fun b9 w20 hC29 hB16=>?_)
         have hC30:=hC29.row0 (α:=Int)
         have hC31:=hC30.triv (B2 (x21))
         have hC32:=hC31.row1
         have hC33:=hC32.front 1 z
         dsimp only [List.eraseIdx,List.cons_append,List.nil_append,List.append_nil] at hC33
         have hC34:Ctx [] w0 w20 (Ad (.slice (some ⟨b9,0,none⟩) 1 1) ([x21]:List Int)::[Ad v7 (x6:(List Int)),Ad v6 (x5:(List Int)),Ai b5 [v4,v5],Ad v4 (x3:(List Int)),Ad v5 (x4:(List Int)),Ai b4 [v6,v7],Ai b3 [(I a3.1),u4]]):=hC33.rowOwn (by simp [maxLen])
         exact Ab<|⟨b8,o2,b9,⟨z,z,z,z,z,z,z,z,z,z,z,z,z,Ah⟩,h3,hC34⟩
        refine ⟨⟨_,_,z,z,?_⟩,?_⟩
        ·rintro _ wD ⟨b7,v17,hsD,hCD⟩
         refine ⟨_,z,WL.sub ?_ hsD⟩
         exact Al hCD 7 z z At z z<|Ab<|⟨b7,v17,⟨z,z,z,z,z,z,z,z,z,z,z,z,z,Ah⟩,hCD⟩
        refine ⟨⟨_,_,z,z,?_⟩,?_⟩
        ·rintro _ wD ⟨b7,v17,hsD,hCD⟩
         refine ⟨_,z,WL.sub ?_ hsD⟩
         exact fd Bj Au z z z z<|Ab<|⟨b7,v17,⟨z,z,z,z,z,z,z,z,z,z,z,z,z,z,Ah⟩,hCD⟩
        refine ⟨⟨_,_,z,z,?_⟩,?_⟩
        ·rintro _ wD ⟨b7,v17,hsD,hCD⟩
         refine ⟨_,z,WL.sub ?_ hsD⟩
         exact Al hCD 3 z z At z z<|Ab<|⟨b7,v17,⟨z,z,z,z,z,z,z,z,z,z,z,z,z,Ah⟩,hCD⟩
        refine ⟨⟨_,_,z,z,?_⟩,?_⟩
        ·rintro _ wD ⟨b7,v17,hsD,hCD⟩
         refine ⟨_,z,WL.sub ?_ hsD⟩
         exact AE Ag ty3 g4 hx3 z z z fun b8 o2 h3=>Ab<|⟨b7,v17,b8,o2,⟨z,z,z,z,z,z,z,z,z,z,z,z,Ah⟩,h3,hCD⟩
        refine ⟨⟨_,_,z,z,?_⟩,?_⟩
        ·rintro _ wD ⟨b7,hsD,hCD⟩
         refine ⟨_,z,WL.sub ?_ hsD⟩
         refine Bt (α:=Int) hCD 4 z (hCD.ro 0 z) (AP _ _) Ag ty3 z hx2 z z z (fun v17 w19 hC28=>?_)
         try dsimp only [List.set] at hC28
         exact Ab<|⟨b7,v17,⟨z,z,z,z,z,z,z,z,z,z,z,z,z,Ah⟩,hC28⟩
        refine ⟨⟨_,_,z,z,?_⟩,?_⟩
        ·rintro _ wD ⟨b7,hsD,hCD⟩
         refine ⟨_,z,WL.sub ?_ hsD⟩
         exact AE Ag ty3 g4 hx3 z z z fun b8 o2 h3=>Ab<|⟨b7,b8,o2,⟨z,z,z,z,z,z,z,z,z,z,z,z,z,Ah⟩,h3,hCD⟩
        refine ⟨⟨_,_,z,z,?_⟩,?_⟩
        ·rintro _ wD ⟨b7,b8,o2,hsD,h3,hCD⟩
         refine ⟨_,z,WL.sub ?_ hsD⟩
         refine Bt (α:=Int) hCD 4 z (hCD.ro 0 z) (AP _ _) Ag ty3 z hx2 z z z (fun v17 w19 hC28=>?_)
         try dsimp only [List.set] at hC28
         exact Ab<|⟨b7,v17,b8,o2,⟨z,z,z,z,z,z,z,z,z,z,z,z,Ah⟩,h3,hC28⟩
        refine ⟨⟨_,_,z,z,?_⟩,?_⟩
        ·rintro _ wD ⟨b7,b8,o2,hsD,h3,hCD⟩
         refine ⟨_,z,WL.sub ?_ hsD⟩
         exact Al hCD 3 z z At z z<|Ab<|⟨b7,b8,o2,⟨z,z,z,z,z,z,z,z,z,z,z,z,z,Ah⟩,h3,hCD⟩
        refine ⟨⟨_,_,z,z,?_⟩,?_⟩
        ·rintro _ wD ⟨b7,b8,o2,hsD,h3,hCD⟩
         refine ⟨_,z,WL.sub ?_ hsD⟩
         refine AH ty3 h3 hCD.keep z z (fun v18 h4=>?_)
         obtain rfl:=By h4
         exact Ab<|⟨b7,b8,o2,⟨z,z,z,z,z,z,z,z,z,z,z,z,z,Ah⟩,h3,hCD⟩
        refine ⟨⟨_,_,z,z,?_⟩,?_⟩
        ·rintro _ wD ⟨b8,o2,hsD,h3,hCD⟩
         refine ⟨_,z,WL.sub ?_ hsD⟩
         refine A8 (vs:=[(I x12)]) hCD Ag ty3 z z z z (fac z<|fa0) z z (fun b7 w18 hC22 hB15=>?_)
         have hC23:=hC22.row0 (α:=Int)
         have hC24:=hC23.triv (B2 (x12))
         have hC25:=hC24.row1
         have hC26:=hC25.front 1 z
         dsimp only [List.eraseIdx,List.cons_append,List.nil_append,List.append_nil] at hC26
         have hC27:Ctx [] w0 w18 (Ad (.slice (some ⟨b7,0,none⟩) 1 1) ([x12]:List Int)::[Ad v7 (x6:(List Int)),Ad v6 (x5:(List Int)),Ai b5 [v4,v5],Ad v4 (x3:(List Int)),Ad v5 (x4:(List Int)),Ai b4 [v6,v7],Ai b3 [(I a3.1),u4]]):=hC26.rowOwn (by simp [maxLen])
         exact Ab<|⟨b7,b8,o2,⟨z,z,z,z,z,z,z,z,z,z,z,z,z,Ah⟩,h3,hC27⟩
        refine ⟨⟨_,_,z,z,?_⟩,?_⟩
        ·rintro _ wD ⟨b8,o2,hsD,h3,hCD⟩
         refine ⟨_,z,WL.sub ?_ hsD⟩
         refine AH ty3 h3 hCD.keep z z (fun v18 h4=>?_)
         obtain rfl:=By h4
         exact Ab<|⟨b8,o2,⟨z,z,z,z,z,z,z,z,z,z,z,z,z,Ah⟩,h3,hCD⟩
        refine ⟨⟨_,_,z,z,?_⟩,?_⟩
        ·rintro _ wD ⟨b8,o2,hsD,h3,hCD⟩
         refine ⟨_,z,WL.sub ?_ hsD⟩
         refine A8 (vs:=[(I x12)]) hCD Ag ty3 z z z z (fac z<|fa0) z z (fun b7 w18 hC22 hB15=>?_)
         have hC23:=hC22.row0 (α:=Int)
         have hC24:=hC23.triv (B2 (x12))
         have hC25:=hC24.row1
         have hC26:=hC25.front 1 z
         dsimp only [List.eraseIdx,List.cons_append,List.nil_append,List.append_nil] at hC26
         have hC27:Ctx [] w0 w18 (Ad (.slice (some ⟨b7,0,none⟩) 1 1) ([x12]:List Int)::[Ad v7 (x6:(List Int)),Ad v6 (x5:(List Int)),Ai b5 [v4,v5],Ad v4 (x3:(List Int)),Ad v5 (x4:(List Int)),Ai b4 [v6,v7],Ai b3 [(I a3.1),u4]]):=hC26.rowOwn (by simp [maxLen])
         exact Ab<|⟨b7,b8,o2,⟨z,z,z,z,z,z,z,z,z,z,z,z,z,Ah⟩,h3,hC27⟩
        refine ⟨⟨_,_,z,z,?_⟩,?_⟩
        ·rintro _ wD ⟨b8,o2,hsD,h3,hCD⟩
         refine ⟨_,z,WL.sub ?_ hsD⟩
         exact Al hCD 2 z z At z z<|Ab<|⟨b8,o2,⟨z,z,z,z,z,z,z,z,z,z,z,z,z,Ah⟩,h3,hCD⟩
        refine ⟨⟨_,_,z,z,?_⟩,?_⟩
        ·rintro _ wD ⟨b8,o2,hsD,h3,hCD⟩
         refine ⟨_,z,WL.sub ?_ hsD⟩
         refine A8 (vs:=[(I x21)]) hCD Ag ty3 z z z z (fac z<|fa0) z z (fun b9 w20 hC29 hB16=>?_)
         have hC30:=hC29.row0 (α:=Int)
         have hC31:=hC30.triv (B2 (x21))
         have hC32:=hC31.row1
         have hC33:=hC32.front 1 z
         dsimp only [List.eraseIdx,List.cons_append,List.nil_append,List.append_nil] at hC33
         have hC34:Ctx [] w0 w20 (Ad (.slice (some ⟨b9,0,none⟩) 1 1) ([x21]:List Int)::[Ad v7 (x6:(List Int)),Ad v6 (x5:(List Int)),Ai b5 [v4,v5],Ad v4 (x3:(List Int)),Ad v5 (x4:(List Int)),Ai b4 [v6,v7],Ai b3 [(I a3.1),u4]]):=hC33.rowOwn (by simp [maxLen])
         exact Ab<|⟨b8,o2,b9,⟨z,z,z,z,z,z,z,z,z,z,z,z,z,Ah⟩,h3,hC34⟩
        refine ⟨⟨_,_,z,z,?_⟩,?_⟩
        ·rintro _ wD ⟨b7,b8,o2,hsD,h3,hCD⟩
         refine ⟨_,z,WL.sub ?_ hsD⟩
         exact Al hCD 3 z z At z z<|Ab<|⟨b7,b8,o2,⟨z,z,z,z,z,z,z,z,z,z,z,z,z,Ah⟩,h3,hCD⟩
        refine ⟨⟨_,_,z,z,?_⟩,?_⟩
        ·rintro _ wD ⟨b7,b8,o2,hsD,h3,hCD⟩
         refine ⟨_,z,WL.sub ?_ hsD⟩
         refine AH ty3 h3 hCD.keep z z (fun v18 h4=>?_)
         obtain rfl:=By h4
         exact Ab<|⟨b7,b8,o2,⟨z,z,z,z,z,z,z,z,z,z,z,z,z,Ah⟩,h3,hCD⟩
        refine ⟨⟨_,_,z,z,?_⟩,?_⟩
        ·rintro _ wD ⟨b7,b8,o2,hsD,h3,hCD⟩
         refine ⟨_,z,WL.sub ?_ hsD⟩
         exact Al hCD 3 z z At z z<|Ab<|⟨b7,b8,o2,⟨z,z,z,z,z,z,z,z,z,z,z,z,z,Ah⟩,h3,hCD⟩
        refine ⟨⟨_,_,z,z,?_⟩,?_⟩
        ·rintro _ wD ⟨b7,b8,o2,hsD,h3,hCD⟩
         refine ⟨_,z,WL.sub ?_ hsD⟩
         exact Al hCD 3 z z At z z<|Ab<|⟨b7,b8,o2,⟨z,z,z,z,z,z,z,z,z,z,z,z,z,Ah⟩,h3,hCD⟩
        refine ⟨⟨_,_,z,z,?_⟩,?_⟩
        ·rintro _ wD ⟨b7,b8,o2,hsD,h3,hCD⟩
         refine ⟨_,z,WL.sub ?_ hsD⟩
         refine A8 (vs:=[(I x21)]) hCD Ag ty3 z z z z (fac z<|fa0) z z (fun b9 w20 hC29 hB16=>?_)
         have hC30:=hC29.row0 (α:=Int)
         have hC31:=hC30.triv (B2 (x21))
         have hC32:=hC31.row1
         have hC33:=hC32.front 1 z
         dsimp only [List.eraseIdx,List.cons_append,List.nil_append,List.append_nil] at hC33
         have hC34:Ctx [] w0 w20 (Ad (.slice (some ⟨b9,0,none⟩) 1 1) ([x21]:List Int)::[Ad (.slice (some ⟨b7,0,none⟩) 1 1) ([x12]:(List Int)),Ad v7 (x6:(List Int)),Ad v6 (x5:(List Int)),Ai b5 [v4,v5],Ad v4 (x3:(List Int)),Ad v5 (x4:(List Int)),Ai b4 [v6,v7],Ai b3 [(I a3.1),u4]]):=hC33.rowOwn (by simp [maxLen])
         exact Ab<|⟨b7,b8,o2,b9,⟨z,z,z,z,z,z,z,z,z,z,z,z,z,Ah⟩,h3,hC34⟩
        refine ⟨⟨_,_,z,z,?_⟩,?_⟩
        ·rintro _ wD ⟨b8,o2,hsD,h3,hCD⟩
         refine ⟨_,z,WL.sub ?_ hsD⟩
         exact Al hCD 2 z z At z z<|Ab<|⟨b8,o2,⟨z,z,z,z,z,z,z,z,z,z,z,z,z,Ah⟩,h3,hCD⟩
        refine ⟨⟨_,_,z,z,?_⟩,?_⟩
        ·rintro _ wD ⟨b8,o2,hsD,h3,hCD⟩
         refine ⟨_,z,WL.sub ?_ hsD⟩
         refine A8 (vs:=[(I x12)]) hCD Ag ty3 z z z z (fac z<|fa0) z z (fun b7 w18 hC22 hB15=>?_)
         have hC23:=hC22.row0 (α:=Int)
         have hC24:=hC23.triv (B2 (x12))
         have hC25:=hC24.row1
         have hC26:=hC25.front 1 z
         dsimp only [List.eraseIdx,List.cons_append,List.nil_append,List.append_nil] at hC26
         have hC27:Ctx [] w0 w18 (Ad (.slice (some ⟨b7,0,none⟩) 1 1) ([x12]:List Int)::[Ad v7 (x6:(List Int)),Ad v6 (x5:(List Int)),Ai b5 [v4,v5],Ad v4 (x3:(List Int)),Ad v5 (x4:(List Int)),Ai b4 [v6,v7],Ai b3 [(I a3.1),u4]]):=hC26.rowOwn (by simp [maxLen])
         exact Ab<|⟨b7,b8,o2,⟨z,z,z,z,z,z,z,z,z,z,z,z,z,Ah⟩,h3,hC27⟩
        refine ⟨⟨_,_,z,z,?_⟩,?_⟩
        ·rintro _ wD ⟨b8,o2,hsD,h3,hCD⟩
         refine ⟨_,z,WL.sub ?_ hsD⟩
         refine A8 (vs:=[(I x21)]) hCD Ag ty3 z z z z (fac z<|fa0) z z (fun b9 w20 hC29 hB16=>?_)
         have hC30:=hC29.row0 (α:=Int)
         have hC31:=hC30.triv (B2 (x21))
         have hC32:=hC31.row1
         have hC33:=hC32.front 1 z
         dsimp only [List.eraseIdx,List.cons_append,List.nil_append,List.append_nil] at hC33
         have hC34:Ctx [] w0 w20 (Ad (.slice (some ⟨b9,0,none⟩) 1 1) ([x21]:List Int)::[Ad v7 (x6:(List Int)),Ad v6 (x5:(List Int)),Ai b5 [v4,v5],Ad v4 (x3:(List Int)),Ad v5 (x4:(List Int)),Ai b4 [v6,v7],Ai b3 [(I a3.1),u4]]):=hC33.rowOwn (by simp [maxLen])
         exact Ab<|⟨b8,o2,b9,⟨z,z,z,z,z,z,z,z,z,z,z,z,z,Ah⟩,h3,hC34⟩
        refine ⟨⟨_,_,z,z,?_⟩,?_⟩
        ·rintro _ wD ⟨b8,o2,b9,hsD,h3,hCD⟩
         refine ⟨_,z,WL.sub ?_ hsD⟩
         exact Al hCD 3 z z At z z<|Ab<|⟨b8,o2,b9,⟨z,z,z,z,z,z,z,z,z,z,z,z,z,Ah⟩,h3,hCD⟩
        refine ⟨⟨_,_,z,z,?_⟩,?_⟩
        ·rintro _ wD ⟨b8,o2,b9,hsD,h3,hCD⟩
         refine ⟨_,z,WL.sub ?_ hsD⟩
         refine A8 (vs:=[(I x12)]) hCD Ag ty3 z z z z (fac z<|fa0) z z (fun b7 w18 hC22 hB15=>?_)
         have hC23:=hC22.row0 (α:=Int)
         have hC24:=hC23.triv (B2 (x12))
         have hC25:=hC24.row1
         have hC26:=hC25.front 1 z
         dsimp only [List.eraseIdx,List.cons_append,List.nil_append,List.append_nil] at hC26
         have hC27:Ctx [] w0 w18 (Ad (.slice (some ⟨b7,0,none⟩) 1 1) ([x12]:List Int)::[Ad (.slice (some ⟨b9,0,none⟩) 1 1) ([x21]:(List Int)),Ad v7 (x6:(List Int)),Ad v6 (x5:(List Int)),Ai b5 [v4,v5],Ad v4 (x3:(List Int)),Ad v5 (x4:(List Int)),Ai b4 [v6,v7],Ai b3 [(I a3.1),u4]]):=hC26.rowOwn (by simp [maxLen])
         exact Ab<|have hC28:=hC27.f8;have hC29:=hC28.f8;have hC30:=hC29.f8;have hC31:=hC30.f8;have hC32:=hC31.f8;have hC33:=hC32.f8;have hC34:=hC33.f8;have hC35:=hC34.f7;have hC36:=hC35.f8;⟨b7,b8,o2,b9,⟨z,z,z,z,z,z,z,z,z,z,z,z,z,Ah⟩,h3,hC36⟩
        refine ⟨⟨_,_,z,z,?_⟩,?_⟩
        ·rintro _ wD ⟨b8,o2,b9,hsD,h3,hCD⟩
         refine ⟨_,z,WL.sub ?_ hsD⟩
         exact Al hCD 3 z z At z z<|Ab<|⟨b8,o2,b9,⟨z,z,z,z,z,z,z,z,z,z,z,z,z,Ah⟩,h3,hCD⟩
        refine ⟨⟨_,_,z,z,?_⟩,?_⟩
        ·rintro _ wD ⟨b7,v17,hsD,hCD⟩
         refine ⟨_,z,WL.sub ?_ hsD⟩
         exact AE Ag ty3 g4 hx3 z z z fun b8 o2 h3=>Ab<|⟨b7,v17,b8,o2,⟨z,z,z,z,z,z,z,z,z,z,z,z,Ah⟩,h3,hCD⟩
        refine ⟨⟨_,_,z,z,?_⟩,?_⟩
        ·rintro _ wD ⟨b7,v17,hsD,hCD⟩
         refine ⟨_,z,WL.sub ?_ hsD⟩
         exact fd Bj Au z z z z<|Ab<|⟨b7,v17,⟨z,z,z,z,z,z,z,z,z,z,z,z,z,z,Ah⟩,hCD⟩
        refine ⟨⟨_,_,z,z,?_⟩,?_⟩
        ·rintro _ wD ⟨b7,v17,hsD,hCD⟩
         refine ⟨_,z,WL.sub ?_ hsD⟩
         exact Al hCD 7 z z At z z<|Ab<|⟨b7,v17,⟨z,z,z,z,z,z,z,z,z,z,z,z,z,z,Ah⟩,hCD⟩
        refine ⟨⟨_,_,z,z,?_⟩,?_⟩
        ·rintro _ wD ⟨b7,v17,b8,o2,hsD,h3,hCD⟩
         refine ⟨_,z,WL.sub ?_ hsD⟩
         exact Al hCD 3 z z At z z<|Ab<|⟨b7,v17,b8,o2,⟨z,z,z,z,z,z,z,z,z,z,z,z,Ah⟩,h3,hCD⟩
        refine ⟨⟨_,_,z,z,?_⟩,?_⟩
        ·rintro _ wD ⟨b7,v17,b8,o2,hsD,h3,hCD⟩
         refine ⟨_,z,WL.sub ?_ hsD⟩
         refine AH ty3 h3 hCD.keep z z (fun v18 h4=>?_)
         obtain rfl:=By h4
         exact Ab<|⟨b7,v17,b8,o2,⟨z,z,z,z,z,z,z,z,z,z,z,z,Ah⟩,h3,hCD⟩
        refine ⟨⟨_,_,z,z,?_⟩,?_⟩
        ·rintro _ wD ⟨b7,b8,o2,hsD,h3,hCD⟩
         refine ⟨_,z,WL.sub ?_ hsD⟩
         refine Bt (α:=Int) hCD 4 z (hCD.ro 0 z) (AP _ _) Ag ty3 z hx2 z z z (fun v17 w19 hC28=>?_)
         try dsimp only [List.set] at hC28
         exact Ab<|⟨b7,v17,b8,o2,⟨z,z,z,z,z,z,z,z,z,z,z,z,Ah⟩,h3,hC28⟩
        refine ⟨⟨_,_,z,z,?_⟩,?_⟩
        ·rintro _ wD ⟨b7,b8,o2,hsD,h3,hCD⟩
         refine ⟨_,z,WL.sub ?_ hsD⟩
         refine AH ty3 h3 hCD.keep z z (fun v18 h4=>?_)
         obtain rfl:=By h4
         exact Ab<|⟨b7,b8,o2,⟨z,z,z,z,z,z,z,z,z,z,z,z,z,Ah⟩,h3,hCD⟩
        refine ⟨⟨_,_,z,z,?_⟩,?_⟩
        ·rintro _ wD ⟨b7,b8,o2,hsD,h3,hCD⟩
         refine ⟨_,z,WL.sub ?_ hsD⟩
         refine Bt (α:=Int) hCD 4 z (hCD.ro 0 z) (AP _ _) Ag ty3 z hx2 z z z (fun v17 w19 hC28=>?_)
         try dsimp only [List.set] at hC28
         exact Ab<|⟨b7,v17,b8,o2,⟨z,z,z,z,z,z,z,z,z,z,z,z,Ah⟩,h3,hC28⟩
        refine ⟨⟨_,_,z,z,?_⟩,?_⟩
        ·rintro _ wD ⟨b7,b8,o2,hsD,h3,hCD⟩
         refine ⟨_,z,WL.sub ?_ hsD⟩
         exact Al hCD 3 z z At z z<|Ab<|⟨b7,b8,o2,⟨z,z,z,z,z,z,z,z,z,z,z,z,z,Ah⟩,h3,hCD⟩
        refine ⟨⟨_,_,z,z,?_⟩,?_⟩
        ·rintro _ wD ⟨b7,b8,o2,hsD,h3,hCD⟩
         refine ⟨_,z,WL.sub ?_ hsD⟩
         refine A8 (vs:=[(I x21)]) hCD Ag ty3 z z z z (fac z<|fa0) z z (fun b9 w20 hC29 hB16=>?_)
         have hC30:=hC29.row0 (α:=Int)
         have hC31:=hC30.triv (B2 (x21))
         have hC32:=hC31.row1
         have hC33:=hC32.front 1 z
         dsimp only [List.eraseIdx,List.cons_append,List.nil_append,List.append_nil] at hC33
         have hC34:Ctx [] w0 w20 (Ad (.slice (some ⟨b9,0,none⟩) 1 1) ([x21]:List Int)::[Ad (.slice (some ⟨b7,0,none⟩) 1 1) ([x12]:(List Int)),Ad v7 (x6:(List Int)),Ad v6 (x5:(List Int)),Ai b5 [v4,v5],Ad v4 (x3:(List Int)),Ad v5 (x4:(List Int)),Ai b4 [v6,v7],Ai b3 [(I a3.1),u4]]):=hC33.rowOwn (by simp [maxLen])
         exact Ab<|⟨b7,b8,o2,b9,⟨z,z,z,z,z,z,z,z,z,z,z,z,z,Ah⟩,h3,hC34⟩
        refine ⟨⟨_,_,z,z,?_⟩,?_⟩
        ·rintro _ wD ⟨b8,o2,hsD,h3,hCD⟩
         refine ⟨_,z,WL.sub ?_ hsD⟩
         refine A8 (vs:=[(I x12)]) hCD Ag ty3 z z z z (fac z<|fa0) z z (fun b7 w18 hC22 hB15=>?_)
         have hC23:=hC22.row0 (α:=Int)
         have hC24:=hC23.triv (B2 (x12))
         have hC25:=hC24.row1
         have hC26:=hC25.front 1 z
         dsimp only [List.eraseIdx,List.cons_append,List.nil_append,List.append_nil] at hC26
         have hC27:Ctx [] w0 w18 (Ad (.slice (some ⟨b7,0,none⟩) 1 1) ([x12]:List Int)::[Ad v7 (x6:(List Int)),Ad v6 (x5:(List Int)),Ai b5 [v4,v5],Ad v4 (x3:(List Int)),Ad v5 (x4:(List Int)),Ai b4 [v6,v7],Ai b3 [(I a3.1),u4]]):=hC26.rowOwn (by simp [maxLen])
         exact Ab<|⟨b7,b8,o2,⟨z,z,z,z,z,z,z,z,z,z,z,z,z,Ah⟩,h3,hC27⟩
        refine ⟨⟨_,_,z,z,?_⟩,?_⟩
        ·rintro _ wD ⟨b8,o2,hsD,h3,hCD⟩
         refine ⟨_,z,WL.sub ?_ hsD⟩
         refine A8 (vs:=[(I x21)]) hCD Ag ty3 z z z z (fac z<|fa0) z z (fun b9 w20 hC29 hB16=>?_)
         have hC30:=hC29.row0 (α:=Int)
         have hC31:=hC30.triv (B2 (x21))
         have hC32:=hC31.row1
         have hC33:=hC32.front 1 z
         dsimp only [List.eraseIdx,List.cons_append,List.nil_append,List.append_nil] at hC33
         have hC34:Ctx [] w0 w20 (Ad (.slice (some ⟨b9,0,none⟩) 1 1) ([x21]:List Int)::[Ad v7 (x6:(List Int)),Ad v6 (x5:(List Int)),Ai b5 [v4,v5],Ad v4 (x3:(List Int)),Ad v5 (x4:(List Int)),Ai b4 [v6,v7],Ai b3 [(I a3.1),u4]]):=hC33.rowOwn (by simp [maxLen])
         exact Ab<|⟨b8,o2,b9,⟨z,z,z,z,z,z,z,z,z,z,z,z,z,Ah⟩,h3,hC34⟩
        refine ⟨⟨_,_,z,z,?_⟩,?_⟩
        ·rintro _ wD ⟨b8,o2,b9,hsD,h3,hCD⟩
         refine ⟨_,z,WL.sub ?_ hsD⟩
         refine A8 (vs:=[(I x12)]) hCD Ag ty3 z z z z (fac z<|fa0) z z (fun b7 w18 hC22 hB15=>?_)
         have hC23:=hC22.row0 (α:=Int)
         have hC24:=hC23.triv (B2 (x12))
         have hC25:=hC24.row1
         have hC26:=hC25.front 1 z
         dsimp only [List.eraseIdx,List.cons_append,List.nil_append,List.append_nil] at hC26
         have hC27:Ctx [] w0 w18 (Ad (.slice (some ⟨b7,0,none⟩) 1 1) ([x12]:List Int)::[Ad (.slice (some ⟨b9,0,none⟩) 1 1) ([x21]:(List Int)),Ad v7 (x6:(List Int)),Ad v6 (x5:(List Int)),Ai b5 [v4,v5],Ad v4 (x3:(List Int)),Ad v5 (x4:(List Int)),Ai b4 [v6,v7],Ai b3 [(I a3.1),u4]]):=hC26.rowOwn (by simp [maxLen])
         exact Ab<|have hC28:=hC27.f8;have hC29:=hC28.f8;have hC30:=hC29.f8;have hC31:=hC30.f8;have hC32:=hC31.f8;have hC33:=hC32.f8;have hC34:=hC33.f8;have hC35:=hC34.f7;have hC36:=hC35.f8;⟨b7,b8,o2,b9,⟨z,z,z,z,z,z,z,z,z,z,z,z,z,Ah⟩,h3,hC36⟩
        refine ⟨⟨_,_,z,z,?_⟩,?_⟩
        ·rintro _ wD ⟨b8,o2,b9,hsD,h3,hCD⟩
         refine ⟨_,z,WL.sub ?_ hsD⟩
         exact Al hCD 3 z z At z z<|Ab<|⟨b8,o2,b9,⟨z,z,z,z,z,z,z,z,z,z,z,z,z,Ah⟩,h3,hCD⟩
        refine ⟨⟨_,_,z,z,?_⟩,?_⟩
        ·rintro _ wD ⟨b7,b8,o2,hsD,h3,hCD⟩
         refine ⟨_,z,WL.sub ?_ hsD⟩
         exact Al hCD 3 z z At z z<|Ab<|⟨b7,b8,o2,⟨z,z,z,z,z,z,z,z,z,z,z,z,z,Ah⟩,h3,hCD⟩
        refine ⟨⟨_,_,z,z,?_⟩,?_⟩
        ·rintro _ wD ⟨b7,b8,o2,hsD,h3,hCD⟩
         refine ⟨_,z,WL.sub ?_ hsD⟩
         refine A8 (vs:=[(I x21)]) hCD Ag ty3 z z z z (fac z<|fa0) z z (fun b9 w20 hC29 hB16=>?_)
         have hC30:=hC29.row0 (α:=Int)
         have hC31:=hC30.triv (B2 (x21))
         have hC32:=hC31.row1
         have hC33:=hC32.front 1 z
         dsimp only [List.eraseIdx,List.cons_append,List.nil_append,List.append_nil] at hC33
         have hC34:Ctx [] w0 w20 (Ad (.slice (some ⟨b9,0,none⟩) 1 1) ([x21]:List Int)::[Ad (.slice (some ⟨b7,0,none⟩) 1 1) ([x12]:(List Int)),Ad v7 (x6:(List Int)),Ad v6 (x5:(List Int)),Ai b5 [v4,v5],Ad v4 (x3:(List Int)),Ad v5 (x4:(List Int)),Ai b4 [v6,v7],Ai b3 [(I a3.1),u4]]):=hC33.rowOwn (by simp [maxLen])
         exact Ab<|⟨b7,b8,o2,b9,⟨z,z,z,z,z,z,z,z,z,z,z,z,z,Ah⟩,h3,hC34⟩
        refine ⟨⟨_,_,z,z,?_⟩,?_⟩
        ·rintro _ wD ⟨b7,b8,o2,b9,hsD,h3,hCD⟩
         refine ⟨_,z,WL.sub ?_ hsD⟩
         exact Al hCD 4 z z At z z<|Ab<|⟨b7,b8,o2,b9,⟨z,z,z,z,z,z,z,z,z,z,z,z,z,Ah⟩,h3,hCD⟩
        refine ⟨⟨_,_,z,z,?_⟩,?_⟩
        ·rintro _ wD ⟨b7,b8,o2,b9,hsD,h3,hCD⟩
         refine ⟨_,z,WL.sub ?_ hsD⟩
         exact Al hCD 4 z z At z z<|Ab<|⟨b7,b8,o2,b9,⟨z,z,z,z,z,z,z,z,z,z,z,z,z,Ah⟩,h3,hCD⟩
        refine ⟨⟨_,_,z,z,?_⟩,?_⟩
        ·rintro _ wD ⟨b8,o2,b9,hsD,h3,hCD⟩
         refine ⟨_,z,WL.sub ?_ hsD⟩
         exact Al hCD 3 z z At z z<|Ab<|⟨b8,o2,b9,⟨z,z,z,z,z,z,z,z,z,z,z,z,z,Ah⟩,h3,hCD⟩
        refine ⟨⟨_,_,z,z,?_⟩,?_⟩
        ·rintro _ wD ⟨b8,o2,b9,hsD,h3,hCD⟩
         refine ⟨_,z,WL.sub ?_ hsD⟩
         refine A8 (vs:=[(I x12)]) hCD Ag ty3 z z z z (fac z<|fa0) z z (fun b7 w18 hC22 hB15=>?_)
         have hC23:=hC22.row0 (α:=Int)
         have hC24:=hC23.triv (B2 (x12))
         have hC25:=hC24.row1
         have hC26:=hC25.front 1 z
         dsimp only [List.eraseIdx,List.cons_append,List.nil_append,List.append_nil] at hC26
         have hC27:Ctx [] w0 w18 (Ad (.slice (some ⟨b7,0,none⟩) 1 1) ([x12]:List Int)::[Ad (.slice (some ⟨b9,0,none⟩) 1 1) ([x21]:(List Int)),Ad v7 (x6:(List Int)),Ad v6 (x5:(List Int)),Ai b5 [v4,v5],Ad v4 (x3:(List Int)),Ad v5 (x4:(List Int)),Ai b4 [v6,v7],Ai b3 [(I a3.1),u4]]):=hC26.rowOwn (by simp [maxLen])
         exact Ab<|have hC28:=hC27.f8;have hC29:=hC28.f8;have hC30:=hC29.f8;have hC31:=hC30.f8;have hC32:=hC31.f8;have hC33:=hC32.f8;have hC34:=hC33.f8;have hC35:=hC34.f7;have hC36:=hC35.f8;⟨b7,b8,o2,b9,⟨z,z,z,z,z,z,z,z,z,z,z,z,z,Ah⟩,h3,hC36⟩
        refine ⟨⟨_,_,z,z,?_⟩,?_⟩
        ·rintro _ wD ⟨b7,v17,b8,o2,hsD,h3,hCD⟩
         refine ⟨_,z,WL.sub ?_ hsD⟩
         refine AH ty3 h3 hCD.keep z z (fun v18 h4=>?_)
         obtain rfl:=By h4
         exact Ab<|⟨b7,v17,b8,o2,⟨z,z,z,z,z,z,z,z,z,z,z,z,Ah⟩,h3,hCD⟩
        refine ⟨⟨_,_,z,z,?_⟩,?_⟩
        ·rintro _ wD ⟨b7,v17,b8,o2,hsD,h3,hCD⟩
         refine ⟨_,z,WL.sub ?_ hsD⟩
         exact fd Bj Au z z z z<|Ab<|⟨b7,v17,b8,o2,⟨z,z,z,z,z,z,z,z,z,z,z,z,z,Ah⟩,h3,hCD⟩
        refine ⟨⟨_,_,z,z,?_⟩,?_⟩
        ·rintro _ wD ⟨b7,v17,hsD,hCD⟩
         refine ⟨_,z,WL.sub ?_ hsD⟩
         exact AE Ag ty3 g4 hx3 z z z fun b8 o2 h3=>Ab<|⟨b7,v17,b8,o2,⟨z,z,z,z,z,z,z,z,z,z,z,z,z,Ah⟩,h3,hCD⟩
        refine ⟨⟨_,_,z,z,?_⟩,?_⟩
        ·rintro _ wD ⟨b7,v17,b8,o2,hsD,h3,hCD⟩
         refine ⟨_,z,WL.sub ?_ hsD⟩
         exact Al hCD 3 z z At z z<|Ab<|⟨b7,v17,b8,o2,⟨z,z,z,z,z,z,z,z,z,z,z,z,Ah⟩,h3,hCD⟩
        refine ⟨⟨_,_,z,z,?_⟩,?_⟩
        ·rintro _ wD ⟨b7,v17,b8,o2,hsD,h3,hCD⟩
         refine ⟨_,z,WL.sub ?_ hsD⟩
         refine A8 (vs:=[(I x21)]) hCD Ag ty3 z z z z (fac z<|fa0) z z (fun b9 w20 hC29 hB16=>?_)
         have hC30:=hC29.row0 (α:=Int)
         have hC31:=hC30.triv (B2 (x21))
         have hC32:=hC31.row1
         have hC33:=hC32.front 1 z
         dsimp only [List.eraseIdx,List.cons_append,List.nil_append,List.append_nil] at hC33
         have hC34:Ctx [] w0 w20 (Ad (.slice (some ⟨b9,0,none⟩) 1 1) ([x21]:List Int)::[Ad (.slice (some ⟨b7,0,none⟩) 1 1) ([x12]:(List Int)),Ad v7 (x6:(List Int)),Ad v6 (x5:(List Int)),Ai b5 [v4,v5],Ad v17 (x20:(List Int)),Ad v5 (x4:(List Int)),Ai b4 [v6,v7],Ai b3 [(I a3.1),u4]]):=hC33.rowOwn (by simp [maxLen])
         exact Ab<|⟨b7,v17,b8,o2,b9,⟨z,z,z,z,z,z,z,z,z,z,z,z,Ah⟩,h3,hC34⟩
        refine ⟨⟨_,_,z,z,?_⟩,?_⟩
        ·rintro _ wD ⟨b7,b8,o2,hsD,h3,hCD⟩
         refine ⟨_,z,WL.sub ?_ hsD⟩
         refine Bt (α:=Int) hCD 4 z (hCD.ro 0 z) (AP _ _) Ag ty3 z hx2 z z z (fun v17 w19 hC28=>?_)
         try dsimp only [List.set] at hC28
         exact Ab<|⟨b7,v17,b8,o2,⟨z,z,z,z,z,z,z,z,z,z,z,z,Ah⟩,h3,hC28⟩
        refine ⟨⟨_,_,z,z,?_⟩,?_⟩
        ·rintro _ wD ⟨b7,b8,o2,hsD,h3,hCD⟩
         refine ⟨_,z,WL.sub ?_ hsD⟩
         refine A8 (vs:=[(I x21)]) hCD Ag ty3 z z z z (fac z<|fa0) z z (fun b9 w20 hC29 hB16=>?_)
         have hC30:=hC29.row0 (α:=Int)
         have hC31:=hC30.triv (B2 (x21))
         have hC32:=hC31.row1
         have hC33:=hC32.front 1 z
         dsimp only [List.eraseIdx,List.cons_append,List.nil_append,List.append_nil] at hC33
         have hC34:Ctx [] w0 w20 (Ad (.slice (some ⟨b9,0,none⟩) 1 1) ([x21]:List Int)::[Ad (.slice (some ⟨b7,0,none⟩) 1 1) ([x12]:(List Int)),Ad v7 (x6:(List Int)),Ad v6 (x5:(List Int)),Ai b5 [v4,v5],Ad v4 (x3:(List Int)),Ad v5 (x4:(List Int)),Ai b4 [v6,v7],Ai b3 [(I a3.1),u4]]):=hC33.rowOwn (by simp [maxLen])
         exact Ab<|⟨b7,b8,o2,b9,⟨z,z,z,z,z,z,z,z,z,z,z,z,z,Ah⟩,h3,hC34⟩
        refine ⟨⟨_,_,z,z,?_⟩,?_⟩
        ·rintro _ wD ⟨b7,b8,o2,b9,hsD,h3,hCD⟩
         refine ⟨_,z,WL.sub ?_ hsD⟩
         refine Bt (α:=Int) hCD 5 z (hCD.ro 1 z) (AP _ _) Ag ty3 z hx2 z z z (fun v17 w19 hC28=>?_)
         try dsimp only [List.set] at hC28
         exact Ab<|⟨b7,v17,b8,o2,b9,⟨z,z,z,z,z,z,z,z,z,z,z,z,Ah⟩,h3,hC28⟩
        refine ⟨⟨_,_,z,z,?_⟩,?_⟩
        ·rintro _ wD ⟨b7,b8,o2,b9,hsD,h3,hCD⟩
         refine ⟨_,z,WL.sub ?_ hsD⟩
         exact Al hCD 4 z z At z z<|Ab<|⟨b7,b8,o2,b9,⟨z,z,z,z,z,z,z,z,z,z,z,z,z,Ah⟩,h3,hCD⟩
        refine ⟨⟨_,_,z,z,?_⟩,?_⟩
        ·rintro _ wD ⟨b8,o2,b9,hsD,h3,hCD⟩
         refine ⟨_,z,WL.sub ?_ hsD⟩
         refine A8 (vs:=[(I x12)]) hCD Ag ty3 z z z z (fac z<|fa0) z z (fun b7 w18 hC22 hB15=>?_)
         have hC23:=hC22.row0 (α:=Int)
         have hC24:=hC23.triv (B2 (x12))
         have hC25:=hC24.row1
         have hC26:=hC25.front 1 z
         dsimp only [List.eraseIdx,List.cons_append,List.nil_append,List.append_nil] at hC26
         have hC27:Ctx [] w0 w18 (Ad (.slice (some ⟨b7,0,none⟩) 1 1) ([x12]:List Int)::[Ad (.slice (some ⟨b9,0,none⟩) 1 1) ([x21]:(List Int)),Ad v7 (x6:(List Int)),Ad v6 (x5:(List Int)),Ai b5 [v4,v5],Ad v4 (x3:(List Int)),Ad v5 (x4:(List Int)),Ai b4 [v6,v7],Ai b3 [(I a3.1),u4]]):=hC26.rowOwn (by simp [maxLen])
         exact Ab<|have hC28:=hC27.f8;have hC29:=hC28.f8;have hC30:=hC29.f8;have hC31:=hC30.f8;have hC32:=hC31.f8;have hC33:=hC32.f8;have hC34:=hC33.f8;have hC35:=hC34.f7;have hC36:=hC35.f8;⟨b7,b8,o2,b9,⟨z,z,z,z,z,z,z,z,z,z,z,z,z,Ah⟩,h3,hC36⟩
        refine ⟨⟨_,_,z,z,?_⟩,?_⟩
        ·rintro _ wD ⟨b7,b8,o2,b9,hsD,h3,hCD⟩
         refine ⟨_,z,WL.sub ?_ hsD⟩
         exact Al hCD 4 z z At z z<|Ab<|⟨b7,b8,o2,b9,⟨z,z,z,z,z,z,z,z,z,z,z,z,z,Ah⟩,h3,hCD⟩
        refine ⟨⟨_,_,z,z,?_⟩,?_⟩
        ·rintro _ wD ⟨b7,v17,b8,o2,hsD,h3,hCD⟩
         refine ⟨_,z,WL.sub ?_ hsD⟩
         refine A8 (vs:=[(I x21)]) hCD Ag ty3 z z z z (fac z<|fa0) z z (fun b9 w20 hC29 hB16=>?_)
         have hC30:=hC29.row0 (α:=Int)
         have hC31:=hC30.triv (B2 (x21))
         have hC32:=hC31.row1
         have hC33:=hC32.front 1 z
         dsimp only [List.eraseIdx,List.cons_append,List.nil_append,List.append_nil] at hC33
         have hC34:Ctx [] w0 w20 (Ad (.slice (some ⟨b9,0,none⟩) 1 1) ([x21]:List Int)::[Ad (.slice (some ⟨b7,0,none⟩) 1 1) ([x12]:(List Int)),Ad v7 (x6:(List Int)),Ad v6 (x5:(List Int)),Ai b5 [v4,v5],Ad v17 (x20:(List Int)),Ad v5 (x4:(List Int)),Ai b4 [v6,v7],Ai b3 [(I a3.1),u4]]):=hC33.rowOwn (by simp [maxLen])
         exact Ab<|⟨b7,v17,b8,o2,b9,⟨z,z,z,z,z,z,z,z,z,z,z,z,Ah⟩,h3,hC34⟩
        refine ⟨⟨_,_,z,z,?_⟩,?_⟩
        ·rintro _ wD ⟨b7,v17,b8,o2,hsD,h3,hCD⟩
         refine ⟨_,z,WL.sub ?_ hsD⟩
         exact fd Bj Au z z z z<|Ab<|⟨b7,v17,b8,o2,⟨z,z,z,z,z,z,z,z,z,z,z,z,z,Ah⟩,h3,hCD⟩
        refine ⟨⟨_,_,z,z,?_⟩,?_⟩
        ·rintro _ wD ⟨b7,v17,b8,o2,hsD,h3,hCD⟩
         refine ⟨_,z,WL.sub ?_ hsD⟩
         refine AH ty3 h3 hCD.keep z z (fun v18 h4=>?_)
         obtain rfl:=By h4
         exact Ab<|⟨b7,v17,b8,o2,⟨z,z,z,z,z,z,z,z,z,z,z,z,z,Ah⟩,h3,hCD⟩
        refine ⟨⟨_,_,z,z,?_⟩,?_⟩
        ·rintro _ wD ⟨b7,v17,b8,o2,b9,hsD,h3,hCD⟩
         refine ⟨_,z,WL.sub ?_ hsD⟩
         exact Al hCD 4 z z At z z<|Ab<|⟨b7,v17,b8,o2,b9,⟨z,z,z,z,z,z,z,z,z,z,z,z,Ah⟩,h3,hCD⟩
        refine ⟨⟨_,_,z,z,?_⟩,?_⟩
        ·rintro _ wD ⟨b7,b8,o2,b9,hsD,h3,hCD⟩
         refine ⟨_,z,WL.sub ?_ hsD⟩
         refine Bt (α:=Int) hCD 5 z (hCD.ro 1 z) (AP _ _) Ag ty3 z hx2 z z z (fun v17 w19 hC28=>?_)
         try dsimp only [List.set] at hC28
         exact Ab<|⟨b7,v17,b8,o2,b9,⟨z,z,z,z,z,z,z,z,z,z,z,z,Ah⟩,h3,hC28⟩
        refine ⟨⟨_,_,z,z,?_⟩,?_⟩
        ·rintro _ wD ⟨b7,v17,b8,o2,b9,hsD,h3,hCD⟩
         refine ⟨_,z,WL.sub ?_ hsD⟩
         refine Bt (α:=Int) hCD 6 z (hCD.ro 0 z) (AP _ _) Ag ty3 z hx4 z z z (fun v19 w21 hC35=>?_)
         try dsimp only [List.set] at hC35
         exact Ab<|⟨b7,v17,b8,o2,b9,v19,⟨z,z,z,z,z,z,z,z,z,z,z,Ah⟩,h3,hC35⟩
        refine ⟨⟨_,_,z,z,?_⟩,?_⟩
        ·rintro _ wD ⟨b7,v17,b8,o2,b9,hsD,h3,hCD⟩
         refine ⟨_,z,WL.sub ?_ hsD⟩
         exact fd Bj Au z z z z<|Ab<|⟨b7,v17,b8,o2,b9,⟨z,z,z,z,z,z,z,z,z,z,z,z,z,Ah⟩,h3,hCD⟩
        refine ⟨⟨_,_,z,z,?_⟩,?_⟩
        ·rintro _ wD ⟨b7,v17,b8,o2,hsD,h3,hCD⟩
         refine ⟨_,z,WL.sub ?_ hsD⟩
         refine A8 (vs:=[(I x21)]) hCD Ag ty3 z z z z (fac z<|fa0) z z (fun b9 w20 hC29 hB16=>?_)
         have hC30:=hC29.row0 (α:=Int)
         have hC31:=hC30.triv (B2 (x21))
         have hC32:=hC31.row1
         have hC33:=hC32.front 1 z
         dsimp only [List.eraseIdx,List.cons_append,List.nil_append,List.append_nil] at hC33
         have hC34:Ctx [] w0 w20 (Ad (.slice (some ⟨b9,0,none⟩) 1 1) ([x21]:List Int)::[Ad (.slice (some ⟨b7,0,none⟩) 1 1) ([x12]:(List Int)),Ad v7 (x6:(List Int)),Ad v6 (x5:(List Int)),Ai b5 [v4,v5],Ad v17 (x20:(List Int)),Ad v5 (x4:(List Int)),Ai b4 [v6,v7],Ai b3 [(I a3.1),u4]]):=hC33.rowOwn (by simp [maxLen])
         exact Ab<|⟨b7,v17,b8,o2,b9,⟨z,z,z,z,z,z,z,z,z,z,z,z,z,Ah⟩,h3,hC34⟩
        refine ⟨⟨_,_,z,z,?_⟩,?_⟩
        ·rintro _ wD ⟨b7,v17,b8,o2,b9,v19,hsD,h3,hCD⟩
         refine ⟨_,z,WL.sub ?_ hsD⟩
         exact fd Bj Au z z z z<|Ab<|⟨b7,v17,b8,o2,b9,v19,⟨z,z,z,z,z,z,z,z,z,z,z,z,Ah⟩,h3,hCD⟩
        refine ⟨⟨_,_,z,z,?_⟩,?_⟩
        ·rintro _ wD ⟨b7,v17,b8,o2,b9,hsD,h3,hCD⟩
         refine ⟨_,z,WL.sub ?_ hsD⟩
         refine Bt (α:=Int) hCD 6 z (hCD.ro 0 z) (AP _ _) Ag ty3 z hx4 z z z (fun v19 w21 hC35=>?_)
         try dsimp only [List.set] at hC35
         exact Ab<|⟨b7,v17,b8,o2,b9,v19,⟨z,z,z,z,z,z,z,z,z,z,z,z,Ah⟩,h3,hC35⟩
        exact Ah
       rintro _ wD ⟨b7,v17,b8,o2,b9,v19,hsD,h3,hCD⟩
       refine WA.sub ?_ hsD
       refine oe 15 z<|BE (cs':=[v17,v5]) hCD 4 z z (B1 (hCD.ro 5 z)) z Au z z fun w22 hC36 hKp3=>?_
       try dsimp only [List.set] at hC36
       refine Ab<|tf 16 Bj Au z z z z z<|oe 17 z<|BE (cs':=[v17,v19]) hC36 4 z z (B1 (hC36.ro 6 z)) z Au z z fun w23 hC37 hKp4=>?_
       try dsimp only [List.set] at hC37
       refine Ab<|dn<|?_
       obtain rfl:=Aa hr8
       have hC38:=hC37.f8
       have hC39:=hC38.f8
       have hC40:=hC39.f8
       have hC41:=hC40.f8
       have hC42:=hC41.f8
       have hC43:=hC42.f8
       have hC44:=hC43.f8
       have hC45:=hC44.h7
       exact An (l':=[(5,(ptr b3 0)),(6,(ptr b4 0)),(8,(ptr b5 0)),(9,(I x7)),(10,(I x12)),(38,u3),(39,(I (List.length a2.2:Int))),(40,(I x7))]) ⟨z,z,z,z,z,z,z,z,Ah⟩<|⟨v17,x20,v19,x22,z,z,hC45⟩
      rintro l5 _ w16 hs5 ⟨v15,x18,v16,x19,rfl,rfl,hC20⟩
      try dsimp only at hr7
      obtain rfl:=Aa hr7
      exact nrm_subs (l2:=[(5,(ptr b3 0)),(6,(ptr b4 0)),(8,(ptr b5 0)),(9,(I x7)),(10,(I x12)),(38,u3),(39,(I (List.length a2.2:Int))),(40,(I x7))]) hs5 ⟨z,z,z,z,z,z,z,z,Ah⟩<|⟨v15,x18,v16,x19,z,z,hC20⟩
     replace hr7:=AA hr7 hc6
     refine A6 ?_
     obtain rfl:=Aa hr7
     exact An (l':=[(5,(ptr b3 0)),(6,(ptr b4 0)),(8,(ptr b5 0)),(9,(I x7)),(10,(I x12)),(38,u3),(39,(I (List.length a2.2:Int))),(40,(I x7))]) ⟨z,z,z,z,z,z,z,z,Ah⟩<|⟨v4,x3,v5,x4,z,z,hC16⟩
    rintro l4 _ w15 hs4 ⟨v13,x16,v14,x17,rfl,rfl,hC19⟩
    try dsimp only at hL1
    refine AO hs4 ?_
    clear hs4
    refine A0<|W_drawn 9 z hmix fun w24 hB17=>have hC46:=hC19.grow hB17;tm 1 z z z<|tf 3 AF Au z z z z z<|tm 5 z z z<|be hL1 fun x23 hr9 hL1=>be hL1 fun x24 hx5 hL1=>wAS (l':=[(5,(ptr b3 0)),(6,(ptr b4 0)),(8,(ptr b5 0)),(9,(I x7)),(10,(I x12)),(38,u3),(39,(I (List.length a2.2:Int))),(40,(I x7)),(70,(I x12)),(72,(ptr b3 1)),(74,(I x7))]) ⟨z,z,z,z,z,z,z,z,z,z,z,Ah⟩<|Bq [⟨0,[],fun vs=>Bg (.agg #[v13,v14]),[]⟩,⟨2,[],fun vs=>Bg (I x23),[]⟩,⟨4,[],fun vs=>Bg u4,[]⟩,⟨6,[],fun vs=>Cj [] w0 x24,[]⟩,⟨7,[],fun vs=>Bg (I x24),[]⟩] [[],[0],[],[4],[6]] 1 z (by kernel_rfl) (by kernel_rfl) z ?_ ?_
    ·refine Aq z ?_ ?_
     ·intro w26 hB19
      refine Ax<|⟨_,z,?_⟩
      exact A4 [v13,v14] (hC46.grow hB19) 2 z z z B6 Bh z z<|Ab<|A3 (Am _ _) z z ⟨z,z⟩
     refine Aq z ?_ ?_
     ·intro w26 hB19
      refine AN z z z ?_
      rintro _ _ ⟨rfl,rfl⟩ _
      refine Ax<|⟨_,z,?_⟩
      exact ci Tryz.call210 z z (c_M_ValueOf (x16,x17) v13 ((hC46.grow hB19).ro 3 z) v14 ((hC46.grow hB19).ro 4 z) x12 x23 hr9) fun w25 hB18=>Ab<|A3 hB18 z z ⟨z,z⟩
     refine Aq z ?_ ?_
     ·intro w26 hB19
      refine Ax<|⟨_,z,?_⟩
      exact Al (hC46.grow hB19) 6 z z At z z<|Ab<|A3 (Am _ _) z z ⟨z,z⟩
     refine Aq z ?_ ?_
     ·intro w26 hB19
      refine AN z z z ?_
      rintro _ _ ⟨rfl,rfl⟩ _
      refine Ax<|⟨_,z,?_⟩
      exact AE Ag ty3 g4 hx5 z z z fun b10 o3 h5=>Ab<|A3 (Am _ _) z z ⟨z,_,_,z,h5⟩
     refine Aq z ?_ ?_
     ·intro w26 hB19
      refine AN z z z ?_
      rintro _ _ ⟨rfl,b10,o3,rfl,h5⟩ _
      refine Ax<|⟨_,z,?_⟩
      refine AH ty3 h5 (hC46.keep.then hB19) z z (fun v20 h6=>?_)
      obtain rfl:=By h6
      exact Ab<|A3 (Am _ _) z z ⟨z,z⟩
     exact Bl
    intro w27 hB20
    refine Av z z z ?_
    rintro _ _ ⟨rfl,rfl⟩
    refine Av z z z ?_
    rintro _ _ ⟨rfl,rfl⟩
    refine Av z z z ?_
    rintro _ _ ⟨rfl,rfl⟩
    refine Av z z z ?_
    rintro _ _ ⟨rfl,b10,o3,rfl,h5⟩
    refine Av z z z ?_
    rintro _ _ ⟨rfl,rfl⟩
    refine Bv fun hn2 hb2=>have hC47:=hC46.grow hB20;tk 8 z z (CZ z z)<|BI z z z<|Ab<|dn<|Aj<|A7 z (fun hc7=>?_) (fun hc7=>?_)
    ·replace hL1:=A9 hL1 hc7
     refine Ac<|Ck (vs:=[]) z z z built149<|AS (cs':=[(.slice none 0 0),(.slice none 0 0)]) (new:=[(.slice none 0 0),(.slice none 0 0)]) hC47 5 z z (fac z<|fac z<|fa0) z Bh z z fun w28 hC48 hKp5=>?_
     try dsimp only [List.set] at hC48
     refine Ae z z<|Ab<|AC<|AU<|Ar<|Ar<|AU<|Ar<|Ar<|?_
     obtain rfl:=Aa hL1
     dsimp only at hF
     obtain rfl:=Aa hF
     refine Dn z (rv_cell_agg (cs':=[(.slice none 0 0),(.slice none 0 0)]) hC48 (i:=5) z z z B6 Bh z) (rv_tmp z) ?_
     have hC49:=hC48.triv (BU (false))
     have hC51:=hC49.triv (nil_val (α:=Int))
     have hC52:=hC51.triv (nil_val (α:=Int))
     have hC50:=Ci (.slice none 0 0) ([]) (.slice none 0 0) ([]) hC52
     exact ⟨_,z,res2_of hC50⟩
    replace hL1:=AA hL1 hc7
    exact A6<|AJ<|Aj<|AX<|Be z z z<|Af z z<|Ab<|An (l':=[(5,(ptr b3 0)),(6,(ptr b4 0)),(8,(ptr b5 0)),(38,u3),(39,(I (List.length a2.2:Int))),(40,(I (w64 (x7+1))))]) ⟨z,z,z,z,z,z,Ah⟩<|⟨k1,Az _,v13,x16,v14,x17,v6,x5,v7,x6,w64 (x7+1),z,hC47,hL1⟩
   replace hL1:=AA hL1 hc4
   refine Bm (A2 (A2 (AT ?_)))
   obtain rfl:=Aa hL1
   have hC53:=hC15.f5
   have hC54:=hC53.f5
   have hC55:=hC54.f5
   have hC56:=hC55.f5
   have hC57:=hC56.f5
   have hC58:=hC57.f5
   have hC59:=hC58.h6
   exact An (l':=[(6,(ptr b4 0)),(8,(ptr b5 0))]) ⟨z,z,Ah⟩<|⟨v4,x3,v5,x4,v6,x5,v7,x6,z,z,hC59⟩
 rintro l6 _ w29 hs6 ⟨v8,x8,v9,x9,v10,x10,v11,x11,rfl,rfl,hC70⟩
 try dsimp only at hF
 refine AO hs6 ?_
 clear hs6
 refine Ac<|A4 [v8,v9] hC70 2 z z z B6 Bh z z<|AS (cs':=[v8,v9]) (new:=[v8,v9]) hC70 5 z z (fac (B1 (hC70.ro 3 z))<|fac (B1 (hC70.ro 4 z))<|fa0) z Bh z z fun w30 hC71 hKp6=>?_
 try dsimp only [List.set] at hC71
 refine Ae z z<|Ab<|AC<|?_
 obtain rfl:=Aa hF
 refine Dn z (rv_cell_agg (cs':=[v8,v9]) hC71 (i:=5) z z z B6 Bh z) (rv_tmp z) ?_
 have hC72:=hC71.triv (BU (true))
 have hC74:=hC72.f5
 have hC75:=hC74.f5
 have hC73:=Ci v8 x8 v9 x9 hC75
 exact ⟨_,z,res2_of hC73⟩
end Go.Gx.Px
