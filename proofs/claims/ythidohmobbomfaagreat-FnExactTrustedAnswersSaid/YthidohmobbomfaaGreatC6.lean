/- The contracts of the Go functions against the pure functions, printed by program. Conditions: each says them. -/
import Derived.Test.YthidohmobbomfaaGreatC5
set_option linter.unusedVariables false
set_option linter.unusedSimpArgs false
set_option maxRecDepth 100000
set_option maxHeartbeats 4000000
namespace Go.Gx.Px
open Go.Proofs Go.RowKit
open K9
theorem c_S_ValueOf {w0:World} (a1:((List Int) × (List Int))) (u1:Value) (g1:RO [] w0 u1 a1.1) (u2:Value) (g2:RO [] w0 u2 a1.2) (a2:Int) (rr:Int) (hF:S.ValueOf a1 a2=some rr) :
 Calls Tryz.prog 127 [(.agg #[u1,u2]),(I a2)].toArray w0 fun e w'=>∃v,e=.returned v∧Res w0 rr v w':=by
 refine Aw Tryz.func127 z z ?_
 have hC0:=A1 w0
 unfold S.ValueOf at hF
 refine Ac<|Bb (cs:=[u1,u2]) hC0 z z z fun b1 w1 hC1 hB1 hN1=>Ae z z<|Ab<|A0<|Ac<|Af z z<|be hF fun x1 hr1 hF=>cb Di z z (c_S_IsVar a2 x1 hr1) fun w2 hB2=>have hC2:=hC1.grow hB2;Bw z z<|Ab<|A7 z (fun hc1=>?_) (fun hc1=>?_)
 ·replace hF:=A9 hF hc1
  refine Ac<|Af z z<|Ae z z<|Ab<|AC<|Ar<|?_
  obtain rfl:=Aa hF
  exact Ay z z<|⟨_,z,Bk hC2 _⟩
 replace hF:=AA hF hc1
 refine A6<|Aj<|A0<|Ac<|Ae z z<|Ab<|be hF fun r1 hr2 hF=>Bf (fun l w=>.inl ()=r1∧l=[]∧Below w2.heap.size w2 w∧Ctx [] w0 w []) ?_ ?_
 ·refine AB<|wS (l':=[(1,(I a2)),(2,(ptr b1 0)),(5,(I 0))]) ⟨z,z,z,Ah⟩<|Bo (fun k l w=>∃x2:Int,l=[(1,(I a2)),(2,(ptr b1 0)),(5,(I x2))]∧Below w2.heap.size w2 w∧Ctx [] w0 w [Ai b1 [u1,u2]]∧S.ValueOf_l1 a1 a2 k x2=some r1) FUEL ⟨0,z,(Am _ _),hC2,hr2⟩<|?_
  clear hr2
  rintro k1 _ w3 ⟨x2,rfl,hB3,hC3,hL1⟩
  cases k1 with
  | zero=>rw [S.ValueOf_l1] at hL1; cases hL1
  | succ k1 =>
   rw [S.ValueOf_l1] at hL1
   refine A0<|be hL1 fun r2 hr3 hL1=>BH (fun l w=>∃x3:Bool,x3=r2∧l=[(1,(I a2)),(2,(ptr b1 0)),(5,(I x2)),(21,(.bool x3))]∧Below w3.heap.size w3 w∧Ctx [] w0 w [Ai b1 [u1,u2]]) ?_ ?_
   ·refine AX<|Af z z<|fd Bj Au z z z z<|Al hC3 0 z z At z z<|AL Ag g1 z z<|AW z z z<|Af z z<|Bz (fun hc2=>?_) (fun hc2=>?_)
    ·replace hr3:=A9 hr3 hc2
     refine Ak z z<|Af z z<|Ak z z<|fd Bj Au z z z z<|Ak z z<|Al hC3 0 z z At z z<|Ak z z<|AL Ag g2 z z<|Ak z z<|AW z z z<|Ba z z z<|Ab<|?_
     obtain rfl:=Aa hr3
     exact An (l':=[(1,(I a2)),(2,(ptr b1 0)),(5,(I x2)),(21,(.bool (decide (x2 < (List.length a1.2:Int)))))]) ⟨z,z,z,z,Ah⟩<|⟨(decide (x2 < (List.length a1.2:Int))),z,z,(Am _ _),hC3⟩
    replace hr3:=AA hr3 hc2
    refine gs z z z z<|gs z z z z<|gs z z z z<|gs z z z z<|gs z z z z<|AY z z z<|Ab<|?_
    obtain rfl:=Aa hr3
    exact An (l':=[(1,(I a2)),(2,(ptr b1 0)),(5,(I x2)),(21,(.bool false))]) ⟨z,z,z,z,Ah⟩<|⟨false,z,z,(Am _ _),hC3⟩
   rintro _ w4 ⟨x3,rfl,rfl,hB4,hC4⟩
   try dsimp only at hL1
   refine A7 z (fun hc3=>?_) (fun hc3=>?_)
   ·replace hL1:=A9 hL1 hc3
    refine A6<|Aj<|A0<|AB<|Ac<|fd Bj Au z z z z<|Al hC4 0 z z At z z<|Af z z<|be hL1 fun x4 hx1 hL1=>AE Ag ty3 g1 hx1 z z z fun b2 o1 h1=>AH ty3 h1 hC4.keep z z fun v1 h2=>?_
    obtain rfl:=By h2
    refine Af z z<|Ca z z z<|Ab<|A7 z (fun hc4=>?_) (fun hc4=>?_)
    ·replace hL1:=A9 hL1 hc4
     refine Ac<|fd Bj Au z z z z<|Al hC4 0 z z At z z<|Af z z<|be hL1 fun x5 hx2 hL1=>AE Ag ty3 g2 hx2 z z z fun b3 o2 h3=>AH ty3 h3 hC4.keep z z fun v2 h4=>?_
     obtain rfl:=By h4
     refine Ae z z<|Ab<|AC<|AU<|Ar<|Ar<|AU<|Ar<|Ar<|?_
     obtain rfl:=Aa hL1
     dsimp only at hF
     obtain rfl:=Aa hF
     exact Ay z z<|⟨_,z,Bk hC4 _⟩
    replace hL1:=AA hL1 hc4
    exact A6<|AJ<|Aj<|AX<|Af z z<|Be z z z<|Ae z z<|Ab<|An (l':=[(1,(I a2)),(2,(ptr b1 0)),(5,(I (w64 (x2+1))))]) ⟨z,z,z,Ah⟩<|⟨k1,Az _,w64 (x2+1),z,((Ap hB3).then hB4).below,hC4,hL1⟩
   replace hL1:=AA hL1 hc3
   refine Bm (A2 (A2 (AT ?_)))
   obtain rfl:=Aa hL1
   have hC5:=hC4.h0
   exact An (l':=[]) Ah<|⟨z,z,((Ap hB3).then hB4).below,hC5⟩
 rintro l3 _ w5 hs3 ⟨rfl,rfl,hB5,hC6⟩
 try dsimp only at hF
 refine AO hs3 ?_
 clear hs3
 refine Ac<|Ae z z<|Ab<|AC<|?_
 obtain rfl:=Aa hF
 exact Ay z z<|⟨_,z,Bk hC6 _⟩
theorem c_S_l4Tuples {w0:World} (a1:((List Int) × (List (Int × (List Int))))) (u1:Value) (g1:RO [] w0 u1 a1.1) (u2:Value) (g2:RO [] w0 u2 a1.2) (a2:(List ((List Int) × (List Int)))) (u3:Value) (g3:RO [] w0 u3 a2) (rr:(List (List Int))) (hF:S.l4Tuples a1 a2=some rr) :
 Calls Tryz.prog 70 [(.agg #[u1,u2]),u3].toArray w0 fun e w'=>∃v,e=.returned v∧Res w0 rr v w':=by
 refine Aw Tryz.func70 z z ?_
 have hC0:=A1 w0
 unfold S.l4Tuples at hF
 refine Ac<|Bb (cs:=[u1,u2]) hC0 z z z fun b1 w1 hC1 hB1 hN1=>Ae z z<|Ab<|Ac<|A8 (vs:=[]) hC1 AG ty24 z z z z (by simp) z z fun b2 w2 hC2 hB2=>?_
 have hC3:=hC2.row0 (α:=(List Int))
 have hC4:=hC3.front 1 z
 dsimp only [List.eraseIdx,List.cons_append,List.nil_append,List.append_nil] at hC4
 have hC5:Ctx [] w0 w2 (Ad (.slice (some ⟨b2,0,none⟩) 0 0) (([]:List (List Int)):List (List Int))::[Ai b1 [u1,u2]]):=hC4.rowOwn (by simp [maxLen])
 refine Ae z z<|Ab<|A0<|Ac<|Ae z z<|Ab<|be hF fun r1 hr1 hF=>Bf (fun l w=>∃v2:Value,∃x3:(List (List Int)),x3=r1∧l=[(5,v2)]∧Ctx [] w0 w [Ad v2 (x3:(List (List Int)))]) ?_ ?_
 ·refine AB<|wS (l':=[(1,u3),(2,(ptr b1 0)),(5,(.slice (some ⟨b2,0,none⟩) 0 0)),(6,(I 0))]) ⟨z,z,z,z,Ah⟩<|Bo (fun k l w=>∃v1:Value,∃x1:(List (List Int)),∃x2:Int,l=[(1,u3),(2,(ptr b1 0)),(5,v1),(6,(I x2))]∧Ctx [] w0 w [Ad v1 (x1:(List (List Int))),Ai b1 [u1,u2]]∧S.l4Tuples_l1 a2 a1 k x1 x2=some r1) FUEL ⟨(.slice (some ⟨b2,0,none⟩) 0 0),([]:List (List Int)),0,z,hC5,hr1⟩<|?_
  clear hr1
  rintro k1 _ w3 ⟨v1,x1,x2,rfl,hC6,hL1⟩
  cases k1 with
  | zero=>rw [S.l4Tuples_l1] at hL1; cases hL1
  | succ k1 =>
   rw [S.l4Tuples_l1] at hL1
   refine A0<|Ac<|Af z z<|Af z z<|AL B5 g3 z z<|AW z z z<|Ab<|A7 z (fun hc1=>?_) (fun hc1=>?_)
   ·replace hL1:=A9 hL1 hc1
    refine A6<|Aj<|A0<|AB<|Ac<|A8 (vs:=[]) hC6 Ag ty3 z z z z (by simp) z z fun b3 w4 hC7 hB4=>?_
    have hC8:=hC7.row0 (α:=Int)
    have hC9:=hC8.front 1 z
    dsimp only [List.eraseIdx,List.cons_append,List.nil_append,List.append_nil] at hC9
    have hC10:Ctx [] w0 w4 (Ad (.slice (some ⟨b3,0,none⟩) 0 0) (([]:List Int):List Int)::[Ad v1 (x1:(List (List Int))),Ai b1 [u1,u2]]):=hC9.rowOwn (by simp [maxLen])
    refine Ae z z<|Ab<|A0<|Ac<|Ae z z<|Ab<|be hL1 fun r2 hr2 hL1=>Bf (fun l w=>∃v4:Value,∃x6:(List Int),x6=r2∧l=[(1,u3),(2,(ptr b1 0)),(5,v1),(6,(I x2)),(7,v4)]∧Ctx [] w0 w [Ad v4 (x6:(List Int)),Ad v1 (x1:(List (List Int))),Ai b1 [u1,u2]]) ?_ ?_
    ·refine AB<|wS (l':=[(1,u3),(2,(ptr b1 0)),(5,v1),(6,(I x2)),(7,(.slice (some ⟨b3,0,none⟩) 0 0)),(8,(I 0))]) ⟨z,z,z,z,z,z,Ah⟩<|Bo (fun k l w=>∃v3:Value,∃x4:(List Int),∃x5:Int,l=[(1,u3),(2,(ptr b1 0)),(5,v1),(6,(I x2)),(7,v3),(8,(I x5))]∧Ctx [] w0 w [Ad v3 (x4:(List Int)),Ad v1 (x1:(List (List Int))),Ai b1 [u1,u2]]∧S.l4Tuples_l2 a1 a2 x2 k x4 x5=some r2) FUEL ⟨(.slice (some ⟨b3,0,none⟩) 0 0),([]:List Int),0,z,hC10,hr2⟩<|?_
     clear hr2
     rintro k2 _ w5 ⟨v3,x4,x5,rfl,hC11,hL2⟩
     cases k2 with
     | zero=>rw [S.l4Tuples_l2] at hL2; cases hL2
     | succ k2 =>
      rw [S.l4Tuples_l2] at hL2
      refine A0<|Ac<|Af z z<|fd Bn Au z z z z<|Al hC11 2 z z At z z<|AL Ag g1 z z<|AW z z z<|Ab<|A7 z (fun hc2=>?_) (fun hc2=>?_)
      ·replace hL2:=A9 hL2 hc2
       refine A6<|Aj<|A0<|AB<|W_drawn 14 z hmix fun w6 hB6=>have hC12:=hC11.grow hB6;tm 0 z z z<|tm 1 z z z<|tm 2 z z z<|be hL2 fun x7 hx1 hL2=>tk 3 z z (B8 B5 ty149 g3 hx1 z z)<|AE B5 ty149 g3 hx1 z z z fun b4 o1 h1=>Ab<|tf 5 Bn Au z z z z z<|tm 7 z z z<|be hL2 fun x8 hx2 hL2=>wAS (l':=[(1,u3),(2,(ptr b1 0)),(5,v1),(6,(I x2)),(7,v3),(8,(I x5)),(17,(I x5)),(18,(ptr b1 0)),(19,u1),(20,(I (List.length a1.1:Int))),(21,(.bool (decide (x5 < (List.length a1.1:Int))))),(24,v3),(25,u3),(26,(I x2)),(27,(ptr b4 o1)),(29,(ptr b1 0)),(31,(I x5))]) ⟨z,z,z,z,z,z,z,z,z,z,z,z,z,z,z,z,z,Ah⟩<|Bq [⟨4,[],fun vs=>Cc [] w0 x7,[]⟩,⟨6,[],fun vs=>Bg u1,[]⟩,⟨8,[],fun vs=>Cj [] w0 x8,[]⟩,⟨9,[],fun vs=>Bg (I x8),[]⟩] [[],[],[6],[8]] 4 z (by kernel_rfl) (by kernel_rfl) z ?_ ?_
       ·refine Aq z ?_ ?_
        ·intro w7 hB7
         refine Ax<|⟨_,z,?_⟩
         exact AH ty149 h1 (hC12.keep.then hB7) z z fun v8 h5=>Ab<|A3 (Am _ _) z z ⟨z,h5⟩
        refine Aq z ?_ ?_
        ·intro w7 hB7
         refine Ax<|⟨_,z,?_⟩
         exact Al (hC12.grow hB7) 2 z z At z z<|Ab<|A3 (Am _ _) z z ⟨z,z⟩
        refine Aq z ?_ ?_
        ·intro w7 hB7
         refine AN z z z ?_
         rintro _ _ ⟨rfl,rfl⟩ _
         refine Ax<|⟨_,z,?_⟩
         exact AE Ag ty3 g1 hx2 z z z fun b5 o2 h6=>Ab<|A3 (Am _ _) z z ⟨z,_,_,z,h6⟩
        refine Aq z ?_ ?_
        ·intro w7 hB7
         refine AN z z z ?_
         rintro _ _ ⟨rfl,b5,o2,rfl,h6⟩ _
         refine Ax<|⟨_,z,?_⟩
         refine AH ty3 h6 (hC12.keep.then hB7) z z (fun v9 h7=>?_)
         obtain rfl:=By h7
         exact Ab<|A3 (Am _ _) z z ⟨z,z⟩
        exact Bl
       intro w9 hB8
       refine Av z z z ?_
       rintro v8 _ ⟨rfl,h5⟩
       obtain ⟨v6,v7,rfl,h3,h4⟩:=CD h5
       refine Av z z z ?_
       rintro _ _ ⟨rfl,rfl⟩
       refine Av z z z ?_
       rintro _ _ ⟨rfl,b5,o2,rfl,h6⟩
       refine Av z z z ?_
       rintro _ _ ⟨rfl,rfl⟩
       refine Bv fun hn1 hb1=>have hC13:=hC12.grow hB8;be hL2 fun x9 hr3 hL2=>oe 10 z<|ci Tryz.call127 z z (c_S_ValueOf x7 v6 (h3.now hC13.keep) v7 (h4.now hC13.keep) x8 x9 hr3) fun w10 hB9=>have hC14:=hC13.grow hB9;Ab<|oe 11 z<|A8 (vs:=[(I x9)]) hC14 Ag ty3 z z z z (fac z<|fa0) z z fun b6 w11 hC15 hB10=>?_
       have hC16:=hC15.row0 (α:=Int)
       have hC17:=hC16.triv (B2 (x9))
       have hC18:=hC17.row1
       have hC19:=hC18.front 1 z
       dsimp only [List.eraseIdx,List.cons_append,List.nil_append,List.append_nil] at hC19
       have hC20:Ctx [] w0 w11 (Ad (.slice (some ⟨b6,0,none⟩) 1 1) ([x9]:List Int)::[Ad v3 (x4:(List Int)),Ad v1 (x1:(List (List Int))),Ai b1 [u1,u2]]):=hC19.rowOwn (by simp [maxLen])
       refine Ab<|be hL2 fun x10 hx3 hL2=>oe 12 z<|Bt (α:=Int) hC20 1 z (hC20.ro 0 z) (AP _ _) Ag ty3 z hx3 z z z fun v10 w12 hC21=>?_
       try dsimp only [List.set] at hC21
       exact Ab<|ta 13 z z z<|dn<|AJ<|Aj<|AX<|Af z z<|Be z z z<|Ae z z<|Ab<|have hC22:=hC21.f3;have hC23:=hC22.f3;have hC24:=hC23.f3;have hC25:=hC24.h3;An (l':=[(1,u3),(2,(ptr b1 0)),(5,v1),(6,(I x2)),(7,v10),(8,(I (w64 (x5+1))))]) ⟨z,z,z,z,z,z,Ah⟩<|⟨k2,Az _,v10,x10,w64 (x5+1),z,hC25,hL2⟩
      replace hL2:=AA hL2 hc2
      refine Bm (A2 (A2 (AT ?_)))
      obtain rfl:=Aa hL2
      exact An (l':=[(1,u3),(2,(ptr b1 0)),(5,v1),(6,(I x2)),(7,v3)]) ⟨z,z,z,z,z,Ah⟩<|⟨v3,x4,z,z,hC11⟩
    rintro l3 _ w13 hs3 ⟨v4,x6,rfl,rfl,hC26⟩
    try dsimp only at hL1
    refine AO hs3 ?_
    clear hs3
    refine AX<|Af z z<|Af z z<|be hL1 fun x11 hr4 hL1=>Bc Tryz.call50 z z (c_S_AddTuple x1 v1 ((hC26.ro 1 z).now (AP _ _)) x6 v4 ((hC26.ro 0 z).now (AP _ _)) x11 hr4)<|?_
    rintro v11 w14 ⟨hB12,F1,hv2,hn2,hb2⟩
    have hC27:=hC26.push hB12 (A:=Ad v11 x11) hv2 hn2 hb2
    exact Ae z z<|Ab<|AJ<|Aj<|AX<|Af z z<|Be z z z<|Ae z z<|Ab<|have hC28:=hC27.f3;have hC29:=hC28.f1;have hC30:=hC29.h2;An (l':=[(1,u3),(2,(ptr b1 0)),(5,v11),(6,(I (w64 (x2+1))))]) ⟨z,z,z,z,Ah⟩<|⟨k1,Az _,v11,x11,w64 (x2+1),z,hC30,hL1⟩
   replace hL1:=AA hL1 hc1
   refine Bm (A2 (A2 (AT ?_)))
   obtain rfl:=Aa hL1
   have hC31:=hC6.h1
   exact An (l':=[(5,v1)]) ⟨z,Ah⟩<|⟨v1,x1,z,z,hC31⟩
 rintro l4 _ w15 hs4 ⟨v2,x3,rfl,rfl,hC32⟩
 try dsimp only at hF
 refine AO hs4 ?_
 clear hs4
 refine Ac<|Af z z<|Ae z z<|Ab<|AC<|?_
 obtain rfl:=Aa hF
 exact Ay z z<|⟨_,z,B7 hC32 0 z⟩
theorem c_S_l4Copy {w0:World} (a1:((List Int) × (List Int))) (u1:Value) (g1:RO [] w0 u1 a1.1) (u2:Value) (g2:RO [] w0 u2 a1.2) (rr:((List Int) × (List Int))) (hF:S.l4Copy a1=some rr) :
 Calls Tryz.prog 212 [(.agg #[u1,u2])].toArray w0 fun e w'=>∃v,e=.returned v∧Res w0 rr v w':=by
 refine Aw Tryz.func212 z z ?_
 have hC0:=A1 w0
 unfold S.l4Copy at hF
 refine Ac<|Bb (cs:=[u1,u2]) hC0 z z z fun b1 w1 hC1 hB1 hN1=>B0 hC1 zero149 z z fun b2 w2 hC2 hB2 hN2=>Ab<|A0<|W_drawn 10 z hmix fun w3 hB3=>have hC3:=hC2.grow hB3;tf 1 Bj Au z z z z z<|tf 5 Bj Au z z z z z<|be hF fun x1 hx1 hF=>wAS (l':=[(0,(.agg #[u1,u2])),(1,(ptr b1 0)),(2,(ptr b2 0)),(4,(ptr b1 0)),(8,(ptr b1 1))]) ⟨z,z,z,z,z,Ah⟩<|Bq [⟨0,[],fun vs=>BX (([]:List Int):(List Int)),[]⟩,⟨2,[],fun vs=>Bg u1,[]⟩,⟨3,[],fun vs=>BX (x1:(List Int)),[0]⟩,⟨4,[],fun vs=>BX (([]:List Int):(List Int)),[]⟩,⟨6,[],fun vs=>Bg u2,[]⟩] [[],[],[2],[],[]] 3 z (by kernel_rfl) (by kernel_rfl) z ?_ ?_
 ·refine Aq z ?_ ?_
  ·intro w7 hB6
   refine Ax<|⟨_,z,?_⟩
   refine A8 (vs:=[]) (A1 w7) Ag ty3 z z z z (by simp) z z (fun b3 w4 hC4 hB4=>?_)
   have hC5:=hC4.row0 (α:=Int)
   have hC6:=hC5.front 1 z
   dsimp only [List.eraseIdx,List.cons_append,List.nil_append,List.append_nil] at hC6
   have hC7:Ctx [] w7 w4 (Ad (.slice (some ⟨b3,0,none⟩) 0 0) (([]:List Int):List Int)::[]):=hC6.rowOwn (by simp [maxLen])
   exact Ab<|Cy hC7 z z (fun F h=>h)
  refine Aq z ?_ ?_
  ·intro w7 hB6
   refine Ax<|⟨_,z,?_⟩
   exact Al (hC3.grow hB6) 1 z z At z z<|Ab<|A3 (Am _ _) z z ⟨z,z⟩
  refine Dw z z z ?_ ?_
  ·intro w7 hB6
   refine AN z z z ?_
   rintro _ _ ⟨rfl,rfl⟩ _
   refine Ax<|⟨_,_,z,z,?_⟩
   intro v1 F1 hv1 ho1
   have hC8:=Ctx.local hv1 ho1
   refine Bt (α:=Int) hC8 0 z g1 (hC3.keep.then hB6) Ag ty3 z hx1 z z z (fun v2 w5 hC9=>?_)
   try dsimp only [List.set] at hC9
   exact Ab<|Cy hC9 z z (fun F h=>h)
  refine Aq z ?_ ?_
  ·intro w7 hB6
   refine Ax<|⟨_,z,?_⟩
   refine A8 (vs:=[]) (A1 w7) Ag ty3 z z z z (by simp) z z (fun b4 w6 hC10 hB5=>?_)
   have hC11:=hC10.row0 (α:=Int)
   have hC12:=hC11.front 1 z
   dsimp only [List.eraseIdx,List.cons_append,List.nil_append,List.append_nil] at hC12
   have hC13:Ctx [] w7 w6 (Ad (.slice (some ⟨b4,0,none⟩) 0 0) (([]:List Int):List Int)::[]):=hC12.rowOwn (by simp [maxLen])
   exact Ab<|Cy hC13 z z (fun F h=>h)
  refine Aq z ?_ ?_
  ·intro w7 hB6
   refine Ax<|⟨_,z,?_⟩
   exact Al (hC3.grow hB6) 1 z z At z z<|Ab<|A3 (Am _ _) z z ⟨z,z⟩
  exact Bl
 intro w9 hB7
 refine AllE_skip z<|Av z z z<|?_
 rintro _ _ ⟨rfl,rfl⟩
 refine Av z z z fun v3 F2 hv2=>Av z z z fun v4 F3 hv3=>Av z z z<|?_
 rintro _ _ ⟨rfl,rfl⟩
 refine Bv ?_
 intro hn1 hb1
 have hC14:=hC3.pushL hB7 (Bs:=[Ad v4 (([]:List Int):(List Int)),Ad v3 (x1:(List Int))]) (Fs:=[F3,F2]) ⟨F3,_,z,hv3,F2,_,z,hv2,z⟩ (by simpa using hn1) (fun b h=>(hb1 b (by simpa using h)).1)
 refine be hF fun x2 hx2 hF=>oe 7 z<|Bt (α:=Int) hC14 0 z g2 hC14.keep Ag ty3 z hx2 z z z fun v5 w10 hC15=>?_
 try dsimp only [List.set] at hC15
 refine Ab<|tk 8 z z (CY (vs:=[(0,v3),(1,v5)]) z z (built149_0_1 (ro_cells (hC15.ro 1 z)) (ro_cells (hC15.ro 0 z))))<|Ck (vs:=[(0,v3),(1,v5)]) z z z (built149_0_1 (ro_cells (hC15.ro 1 z)) (ro_cells (hC15.ro 0 z)))<|Ab<|oe 9 z<|AS (cs':=[v3,v5]) (new:=[v3,v5]) hC15 2 z z (fac (B1 (hC15.ro 1 z))<|fac (B1 (hC15.ro 0 z))<|fa0) z Bh z z fun w11 hC16 hKp1=>?_
 try dsimp only [List.set] at hC16
 refine Ab<|dn<|Aj<|AC<|?_
 obtain rfl:=Aa hF
 refine Cl z (rv_cell_agg (cs':=[v3,v5]) hC16 (i:=2) z z z B6 Bh z)<|have hC19:=hC16.f1;?_
 have hC17:=Ci v3 x1 v5 x2 hC19
 exact ⟨_,z,B7 hC17 0 z⟩
theorem c_S_l4Bound {w0:World} (a1:((List Int) × (List Int))) (u1:Value) (g1:RO [] w0 u1 a1.1) (u2:Value) (g2:RO [] w0 u2 a1.2) (a2:Int) (rr:Bool) (hF:S.l4Bound a1 a2=some rr) :
 Calls Tryz.prog 213 [(.agg #[u1,u2]),(I a2)].toArray w0 fun e w'=>∃v,e=.returned v∧Res w0 rr v w':=by
 refine Aw Tryz.func213 z z ?_
 have hC0:=A1 w0
 unfold S.l4Bound at hF
 refine Ac<|Bb (cs:=[u1,u2]) hC0 z z z fun b1 w1 hC1 hB1 hN1=>Ae z z<|Ab<|A0<|Ac<|Ae z z<|Ab<|be hF fun r1 hr1 hF=>Bf (fun l w=>.inl ()=r1∧l=[]∧Below w1.heap.size w1 w∧Ctx [] w0 w []) ?_ ?_
 ·refine AB<|wS (l':=[(1,(I a2)),(2,(ptr b1 0)),(5,(I 0))]) ⟨z,z,z,Ah⟩<|Bo (fun k l w=>∃x1:Int,l=[(1,(I a2)),(2,(ptr b1 0)),(5,(I x1))]∧Below w1.heap.size w1 w∧Ctx [] w0 w [Ai b1 [u1,u2]]∧S.l4Bound_l1 a1 a2 k x1=some r1) FUEL ⟨0,z,(Am _ _),hC1,hr1⟩<|?_
  clear hr1
  rintro k1 _ w2 ⟨x1,rfl,hB2,hC2,hL1⟩
  cases k1 with
  | zero=>rw [S.l4Bound_l1] at hL1; cases hL1
  | succ k1 =>
   rw [S.l4Bound_l1] at hL1
   refine A0<|be hL1 fun r2 hr2 hL1=>BH (fun l w=>∃x2:Bool,x2=r2∧l=[(1,(I a2)),(2,(ptr b1 0)),(5,(I x1)),(17,(.bool x2))]∧Below w2.heap.size w2 w∧Ctx [] w0 w [Ai b1 [u1,u2]]) ?_ ?_
   ·refine AX<|Af z z<|fd Bj Au z z z z<|Al hC2 0 z z At z z<|AL Ag g1 z z<|AW z z z<|Af z z<|Bz (fun hc1=>?_) (fun hc1=>?_)
    ·replace hr2:=A9 hr2 hc1
     refine Ak z z<|Af z z<|Ak z z<|fd Bj Au z z z z<|Ak z z<|Al hC2 0 z z At z z<|Ak z z<|AL Ag g2 z z<|Ak z z<|AW z z z<|Ba z z z<|Ab<|?_
     obtain rfl:=Aa hr2
     exact An (l':=[(1,(I a2)),(2,(ptr b1 0)),(5,(I x1)),(17,(.bool (decide (x1 < (List.length a1.2:Int)))))]) ⟨z,z,z,z,Ah⟩<|⟨(decide (x1 < (List.length a1.2:Int))),z,z,(Am _ _),hC2⟩
    replace hr2:=AA hr2 hc1
    refine gs z z z z<|gs z z z z<|gs z z z z<|gs z z z z<|gs z z z z<|AY z z z<|Ab<|?_
    obtain rfl:=Aa hr2
    exact An (l':=[(1,(I a2)),(2,(ptr b1 0)),(5,(I x1)),(17,(.bool false))]) ⟨z,z,z,z,Ah⟩<|⟨false,z,z,(Am _ _),hC2⟩
   rintro _ w3 ⟨x2,rfl,rfl,hB3,hC3⟩
   try dsimp only at hL1
   refine A7 z (fun hc2=>?_) (fun hc2=>?_)
   ·replace hL1:=A9 hL1 hc2
    refine A6<|Aj<|A0<|AB<|Ac<|fd Bj Au z z z z<|Al hC3 0 z z At z z<|Af z z<|be hL1 fun x3 hx1 hL1=>AE Ag ty3 g1 hx1 z z z fun b2 o1 h1=>AH ty3 h1 hC3.keep z z fun v1 h2=>?_
    obtain rfl:=By h2
    refine Af z z<|Ca z z z<|Ab<|A7 z (fun hc3=>?_) (fun hc3=>?_)
    ·replace hL1:=A9 hL1 hc3
     refine Ac<|Ae z z<|Ab<|AC<|AU<|Ar<|Ar<|AU<|Ar<|Ar<|?_
     obtain rfl:=Aa hL1
     dsimp only at hF
     obtain rfl:=Aa hF
     exact Ay z z<|⟨_,z,AD hC3 _⟩
    replace hL1:=AA hL1 hc3
    exact A6<|AJ<|Aj<|AX<|Af z z<|Be z z z<|Ae z z<|Ab<|An (l':=[(1,(I a2)),(2,(ptr b1 0)),(5,(I (w64 (x1+1))))]) ⟨z,z,z,Ah⟩<|⟨k1,Az _,w64 (x1+1),z,((Ap hB2).then hB3).below,hC3,hL1⟩
   replace hL1:=AA hL1 hc2
   refine Bm (A2 (A2 (AT ?_)))
   obtain rfl:=Aa hL1
   have hC4:=hC3.h0
   exact An (l':=[]) Ah<|⟨z,z,((Ap hB2).then hB3).below,hC4⟩
 rintro l3 _ w4 hs3 ⟨rfl,rfl,hB4,hC5⟩
 try dsimp only at hF
 refine AO hs3 ?_
 clear hs3
 refine Ac<|Ae z z<|Ab<|AC<|?_
 obtain rfl:=Aa hF
 exact Ay z z<|⟨_,z,AD hC5 _⟩
theorem c_S_l4Bind {w0:World} (a1:((List Int) × (List Int))) (u1:Value) (g1:RO [] w0 u1 a1.1) (u2:Value) (g2:RO [] w0 u2 a1.2) (a2:Int) (a3:Int) (rr:((List Int) × (List Int))) (hF:S.l4Bind a1 a2 a3=some rr) :
 Calls Tryz.prog 214 [(.agg #[u1,u2]),(I a2),(I a3)].toArray w0 fun e w'=>∃v,e=.returned v∧Res w0 rr v w':=by
 refine Aw Tryz.func214 z z ?_
 have hC0:=A1 w0
 unfold S.l4Bind at hF
 refine Ac<|Bb (cs:=[u1,u2]) hC0 z z z fun b1 w1 hC1 hB1 hN1=>B0 hC1 zero149 z z fun b2 w2 hC2 hB2 hN2=>Ab<|A0<|W_drawn 16 z hmix fun w3 hB3=>have hC3:=hC2.grow hB3;tf 1 Bj Au z z z z z<|tm 4 z z z<|tf 8 Bj Au z z z z z<|tm 11 z z z<|be hF fun x1 hx1 hF=>be hF fun x2 hx2 hF=>be hF fun x3 hx3 hF=>wAS (l':=[(0,(.agg #[u1,u2])),(1,(I a2)),(2,(I a3)),(3,(ptr b1 0)),(6,(ptr b2 0)),(8,(ptr b1 0)),(11,(I a2)),(15,(ptr b1 1)),(18,(I a3))]) ⟨z,z,z,z,z,z,z,z,z,Ah⟩<|Bq [⟨0,[],fun vs=>BX (([]:List Int):(List Int)),[]⟩,⟨2,[],fun vs=>Bg u1,[]⟩,⟨3,[],fun vs=>BX (x1:(List Int)),[0]⟩,⟨5,[],fun vs=>BX ([a2]:(List Int)),[]⟩,⟨6,[],fun vs=>BX (x2:(List Int)),[3]⟩,⟨7,[],fun vs=>BX (([]:List Int):(List Int)),[]⟩,⟨9,[],fun vs=>Bg u2,[]⟩,⟨10,[],fun vs=>BX (x3:(List Int)),[7]⟩,⟨12,[],fun vs=>BX ([a3]:(List Int)),[]⟩] [[],[],[2],[],[5],[],[],[9],[]] 3 z (by kernel_rfl) (by kernel_rfl) z ?_ ?_
 ·refine Aq z ?_ ?_
  ·intro w12 hB8
   refine Ax<|⟨_,z,?_⟩
   refine A8 (vs:=[]) (A1 w12) Ag ty3 z z z z (by simp) z z (fun b3 w4 hC4 hB4=>?_)
   have hC5:=hC4.row0 (α:=Int)
   have hC6:=hC5.front 1 z
   dsimp only [List.eraseIdx,List.cons_append,List.nil_append,List.append_nil] at hC6
   have hC7:Ctx [] w12 w4 (Ad (.slice (some ⟨b3,0,none⟩) 0 0) (([]:List Int):List Int)::[]):=hC6.rowOwn (by simp [maxLen])
   exact Ab<|Cy hC7 z z (fun F h=>h)
  refine Aq z ?_ ?_
  ·intro w12 hB8
   refine Ax<|⟨_,z,?_⟩
   exact Al (hC3.grow hB8) 1 z z At z z<|Ab<|A3 (Am _ _) z z ⟨z,z⟩
  refine Dw z z z ?_ ?_
  ·intro w12 hB8
   refine AN z z z ?_
   rintro _ _ ⟨rfl,rfl⟩ _
   refine Ax<|⟨_,_,z,z,?_⟩
   intro v1 F1 hv1 ho1
   have hC8:=Ctx.local hv1 ho1
   refine Bt (α:=Int) hC8 0 z g1 (hC3.keep.then hB8) Ag ty3 z hx1 z z z (fun v2 w5 hC9=>?_)
   try dsimp only [List.set] at hC9
   exact Ab<|Cy hC9 z z (fun F h=>h)
  refine Aq z ?_ ?_
  ·intro w12 hB8
   refine Ax<|⟨_,z,?_⟩
   refine A8 (vs:=[(I a2)]) (A1 w12) Ag ty3 z z z z (fac z<|fa0) z z (fun b4 w6 hC10 hB5=>?_)
   have hC11:=hC10.row0 (α:=Int)
   have hC12:=hC11.triv (B2 (a2))
   have hC13:=hC12.row1
   have hC14:=hC13.front 1 z
   dsimp only [List.eraseIdx,List.cons_append,List.nil_append,List.append_nil] at hC14
   have hC15:Ctx [] w12 w6 (Ad (.slice (some ⟨b4,0,none⟩) 1 1) ([a2]:List Int)::[]):=hC14.rowOwn (by simp [maxLen])
   exact Ab<|Cy hC15 z z (fun F h=>h)
  refine Dw z z z ?_ ?_
  ·intro w12 hB8
   refine AN z z z fun v4 F3 hv3 _=>Ax<|⟨_,_,z,z,?_⟩
   intro v3 F2 hv2 ho2
   have hC16:=Ctx.local hv2 ho2
   refine Bt (α:=Int) hC16 0 z (CO hv3) (AP _ _) Ag ty3 z hx2 z z z (fun v5 w7 hC17=>?_)
   try dsimp only [List.set] at hC17
   exact Ab<|Cy hC17 z z (fun F h=>h)
  refine Aq z ?_ ?_
  ·intro w12 hB8
   refine Ax<|⟨_,z,?_⟩
   refine A8 (vs:=[]) (A1 w12) Ag ty3 z z z z (by simp) z z (fun b5 w9 hC18 hB6=>?_)
   have hC19:=hC18.row0 (α:=Int)
   have hC20:=hC19.front 1 z
   dsimp only [List.eraseIdx,List.cons_append,List.nil_append,List.append_nil] at hC20
   have hC21:Ctx [] w12 w9 (Ad (.slice (some ⟨b5,0,none⟩) 0 0) (([]:List Int):List Int)::[]):=hC20.rowOwn (by simp [maxLen])
   exact Ab<|Cy hC21 z z (fun F h=>h)
  refine Aq z ?_ ?_
  ·intro w12 hB8
   refine Ax<|⟨_,z,?_⟩
   exact Al (hC3.grow hB8) 1 z z At z z<|Ab<|A3 (Am _ _) z z ⟨z,z⟩
  refine Dw z z z ?_ ?_
  ·intro w12 hB8
   refine AN z z z ?_
   rintro _ _ ⟨rfl,rfl⟩ _
   refine Ax<|⟨_,_,z,z,?_⟩
   intro v7 F5 hv5 ho3
   have hC22:=Ctx.local hv5 ho3
   refine Bt (α:=Int) hC22 0 z g2 (hC3.keep.then hB8) Ag ty3 z hx3 z z z (fun v8 w10 hC23=>?_)
   try dsimp only [List.set] at hC23
   exact Ab<|Cy hC23 z z (fun F h=>h)
  refine Aq z ?_ ?_
  ·intro w12 hB8
   refine Ax<|⟨_,z,?_⟩
   refine A8 (vs:=[(I a3)]) (A1 w12) Ag ty3 z z z z (fac z<|fa0) z z (fun b6 w11 hC24 hB7=>?_)
   have hC25:=hC24.row0 (α:=Int)
   have hC26:=hC25.triv (B2 (a3))
   have hC27:=hC26.row1
   have hC28:=hC27.front 1 z
   dsimp only [List.eraseIdx,List.cons_append,List.nil_append,List.append_nil] at hC28
   have hC29:Ctx [] w12 w11 (Ad (.slice (some ⟨b6,0,none⟩) 1 1) ([a3]:List Int)::[]):=hC28.rowOwn (by simp [maxLen])
   exact Ab<|Cy hC29 z z (fun F h=>h)
  exact Bl
 intro w13 hB9
 refine AllE_skip z<|Av z z z<|?_
 rintro _ _ ⟨rfl,rfl⟩
 refine AllE_skip z<|Av z z z fun v4 F3 hv3=>Av z z z fun v6 F4 hv4=>AllE_skip z<|Av z z z<|?_
 rintro _ _ ⟨rfl,rfl⟩
 refine Av z z z fun v9 F6 hv6=>Av z z z fun v10 F7 hv7=>Bv fun hn1 hb1=>?_
 have hC30:=hC3.pushL hB9 (Bs:=[Ad v10 ([a3]:(List Int)),Ad v9 (x3:(List Int)),Ad v6 (x2:(List Int)),Ad v4 ([a2]:(List Int))]) (Fs:=[F7,F6,F4,F3]) ⟨F7,_,z,hv7,F6,_,z,hv6,F4,_,z,hv4,F3,_,z,hv3,z⟩ (by simpa using hn1) (fun b h=>(hb1 b (by simpa using h)).1)
 refine be hF fun x4 hx4 hF=>oe 13 z<|Bt (α:=Int) hC30 1 z (hC30.ro 0 z) (AP _ _) Ag ty3 z hx4 z z z fun v11 w14 hC31=>?_
 try dsimp only [List.set] at hC31
 refine Ab<|tk 14 z z (CY (vs:=[(0,v6),(1,v11)]) z z (built149_0_1 (ro_cells (hC31.ro 2 z)) (ro_cells (hC31.ro 1 z))))<|Ck (vs:=[(0,v6),(1,v11)]) z z z (built149_0_1 (ro_cells (hC31.ro 2 z)) (ro_cells (hC31.ro 1 z)))<|Ab<|oe 15 z<|AS (cs':=[v6,v11]) (new:=[v6,v11]) hC31 4 z z (fac (B1 (hC31.ro 2 z))<|fac (B1 (hC31.ro 1 z))<|fa0) z Bh z z fun w15 hC32 hKp1=>?_
 try dsimp only [List.set] at hC32
 refine Ab<|dn<|Aj<|AC<|?_
 obtain rfl:=Aa hF
 refine Cl z (rv_cell_agg (cs':=[v6,v11]) hC32 (i:=4) z z z B6 Bh z)<|have hC34:=hC32.f1;have hC35:=hC34.f2;?_
 have hC33:=Ci v6 x2 v11 x4 hC35
 exact ⟨_,z,B7 hC33 0 z⟩
theorem c_S_MatchAtom {w0:World} (a1:((List Int) × (List Int))) (u1:Value) (g1:RO [] w0 u1 a1.1) (u2:Value) (g2:RO [] w0 u2 a1.2) (a2:(Int × (List Int))) (u3:Value) (g3:RO [] w0 u3 a2.2) (a3:(Int × (List Int))) (u4:Value) (g4:RO [] w0 u4 a3.2) (rr:(((List Int) × (List Int)) × Bool)) (hF:S.MatchAtom a1 a2 a3=some rr) :
 Calls Tryz.prog 180 [(.agg #[u1,u2]),(.agg #[(I a2.1),u3]),(.agg #[(I a3.1),u4])].toArray w0 fun e w'=>∃v,e=.returned v∧Res2 w0 rr.1 rr.2 v w':=by
 refine Aw Tryz.func180 z z ?_
 have hC0:=A1 w0
 unfold S.MatchAtom at hF
 refine Ac<|Bb (cs:=[u1,u2]) hC0 z z z fun b1 w1 hC1 hB1 hN1=>Bb (cs:=[(I a2.1),u3]) hC1 z z z fun b2 w2 hC2 hB2 hN2=>Bb (cs:=[(I a3.1),u4]) hC2 z z z fun b3 w3 hC3 hB3 hN3=>B0 hC3 zero149 z z fun b4 w4 hC4 hB4 hN4=>Ae z z<|Ab<|Ac<|A4 [u1,u2] hC4 3 z z z B6 Bh z z<|be hF fun x1 hr1 hF=>Bc Tryz.call212 z z (c_S_l4Copy (a1.1,a1.2) u1 (g1.now hC4.keep) u2 (g2.now hC4.keep) x1 hr1)<|?_
 rintro v1 w5 ⟨hB5,F1,hv1,hn1,hb1⟩
 have hC5:=hC4.push hB5 (A:=Ad v1 x1) hv1 hn1 hb1
 obtain ⟨v2,v3,rfl,hC6⟩:=st149_own hC5
 refine B0 hC6 zero149 z z fun b5 w6 hC7 hB6 hN5=>AS (cs':=[v2,v3]) (new:=[v2,v3]) hC7 0 z z (fac (B1 (hC7.ro 1 z))<|fac (B1 (hC7.ro 2 z))<|fa0) z Bh z z fun w7 hC8 hKp1=>?_
 try dsimp only [List.set] at hC8
 have hk1:=AI ((((((Ap hB1).then hB2).then hB3).then hB4).then hB5).then hB6) (AM (((((Ap hB1).then hB2).then hB3).then hB4).then hB5).size hN5) hKp1
 have hk2:=AI (((((Ap hB2).then hB3).then hB4).then hB5).then hB6) (AM ((((Ap hB2).then hB3).then hB4).then hB5).size hN5) hKp1
 have hk3:=AI ((((Ap hB3).then hB4).then hB5).then hB6) (AM (((Ap hB3).then hB4).then hB5).size hN5) hKp1
 have hk4:=AI (((Ap hB4).then hB5).then hB6) (AM ((Ap hB4).then hB5).size hN5) hKp1
 have hk5:=AI ((Ap hB5).then hB6) (AM (Ap hB5).size hN5) hKp1
 have hk6:=AI (Ap hB6) hN5 hKp1
 refine Ab<|A0<|be hF fun r1 hr2 hF=>BH (fun l w=>∃x2:Bool,x2=r1∧l=[(4,(ptr b2 0)),(5,(ptr b3 0)),(6,(ptr b4 0)),(8,(ptr b5 0)),(35,(.bool x2))]∧Below w7.heap.size w7 w∧Ctx [] w0 w [Ai b5 [v2,v3],Ad v2 (x1.1:(List Int)),Ad v3 (x1.2:(List Int)),Ai b4 [(.slice none 0 0),(.slice none 0 0)],Ai b3 [(I a3.1),u4],Ai b2 [(I a2.1),u3]]) ?_ ?_
 ·refine AX<|fd AZ A5 z z z z<|Al hC8 5 z z AV z z<|fd AF A5 z z z z<|Al hC8 4 z z AV z z<|BI z z z<|Af z z<|Bz (fun hc1=>?_) (fun hc1=>?_)
  ·replace hr2:=A9 hr2 hc1
   refine gs z z z z<|gs z z z z<|gs z z z z<|gs z z z z<|gs z z z z<|gs z z z z<|gs z z z z<|Ba z z z<|Af z z<|gs z z z z<|gs z z z z<|gs z z z z<|gs z z z z<|gs z z z z<|gs z z z z<|gs z z z z<|Ba z z z<|Ab<|?_
   obtain rfl:=Aa hr2
   have hC10:=hC8.f5
   have hC11:=hC10.f5
   have hC12:=hC11.f5
   have hC13:=hC12.f5
   have hC14:=hC13.f5
   have hC15:=hC14.f5
   have hC16:=hC15.h6
   exact An (l':=[(4,(ptr b2 0)),(5,(ptr b3 0)),(6,(ptr b4 0)),(8,(ptr b5 0)),(35,(.bool true))]) ⟨z,z,z,z,z,Ah⟩<|⟨true,z,z,(Am _ _),hC16⟩
  replace hr2:=AA hr2 hc1
  refine Ak z z<|fd AZ Au z z z z<|Ak z z<|Al hC8 5 z z At z z<|Ak z z<|AL Ag g3 z z<|Ak z z<|fd AF Au z z z z<|Ak z z<|Al hC8 4 z z At z z<|Ak z z<|AL Ag g4 z z<|Ak z z<|BI z z z<|AY z z z<|Af z z<|Bz (fun hc2=>?_) (fun hc2=>?_)
  ·replace hr2:=A9 hr2 hc2
   refine gs z z z z<|gs z z z z<|gs z z z z<|gs z z z z<|gs z z z z<|gs z z z z<|gs z z z z<|Ba z z z<|Ab<|?_
   obtain rfl:=Aa hr2
   have hC17:=hC8.f5
   have hC18:=hC17.f5
   have hC19:=hC18.f5
   have hC20:=hC19.f5
   have hC21:=hC20.f5
   have hC22:=hC21.f5
   have hC23:=hC22.h6
   exact An (l':=[(4,(ptr b2 0)),(5,(ptr b3 0)),(6,(ptr b4 0)),(8,(ptr b5 0)),(35,(.bool true))]) ⟨z,z,z,z,z,Ah⟩<|⟨true,z,z,(Am _ _),hC23⟩
  replace hr2:=AA hr2 hc2
  refine Ak z z<|fd Bj Au z z z z<|Ak z z<|Al hC8 6 z z At z z<|Ak z z<|AL Ag g1 z z<|Ak z z<|fd Bj Au z z z z<|Ak z z<|Al hC8 6 z z At z z<|Ak z z<|AL Ag g2 z z<|Ak z z<|BI z z z<|AY z z z<|Ab<|?_
  obtain rfl:=Aa hr2
  have hC24:=hC8.f5
  have hC25:=hC24.f5
  have hC26:=hC25.f5
  have hC27:=hC26.f5
  have hC28:=hC27.f5
  have hC29:=hC28.f5
  have hC30:=hC29.h6
  exact An (l':=[(4,(ptr b2 0)),(5,(ptr b3 0)),(6,(ptr b4 0)),(8,(ptr b5 0)),(35,(.bool (!decide ((List.length a1.1:Int)=(List.length a1.2:Int)))))]) ⟨z,z,z,z,z,Ah⟩<|⟨(!decide ((List.length a1.1:Int)=(List.length a1.2:Int))),z,z,(Am _ _),hC30⟩
 rintro _ w9 ⟨x2,rfl,rfl,hB7,hC9⟩
 try dsimp only at hF
 refine A7 z (fun hc3=>?_) (fun hc3=>?_)
 ·replace hF:=A9 hF hc3
  refine Ac<|Ck (vs:=[]) z z z built149<|AS (cs':=[(.slice none 0 0),(.slice none 0 0)]) (new:=[(.slice none 0 0),(.slice none 0 0)]) hC9 3 z z (fac z<|fac z<|fa0) z Bh z z fun w10 hC31 hKp2=>?_
  try dsimp only [List.set] at hC31
  have hk7:=AI (hk1.then hB7) (AM (((Ap hB1).then hB2).then hB3).size hN4) hKp2
  have hk8:=AI (hk2.then hB7) (AM ((Ap hB2).then hB3).size hN4) hKp2
  have hk9:=AI (hk3.then hB7) (AM (Ap hB3).size hN4) hKp2
  have hk10:=AI (hk4.then hB7) hN4 hKp2
  refine Ae z z<|Ab<|AC<|Ar<|?_
  obtain rfl:=Aa hF
  refine Dn z (rv_cell_agg (cs':=[(.slice none 0 0),(.slice none 0 0)]) hC31 (i:=3) z z z B6 Bh z) (rv_tmp z) ?_
  have hC32:=hC31.triv (BU (false))
  have hC34:=hC32.triv (nil_val (α:=Int))
  have hC35:=hC34.triv (nil_val (α:=Int))
  have hC33:=Ci (.slice none 0 0) ([]) (.slice none 0 0) ([]) hC35
  exact ⟨_,z,res2_of hC33⟩
 replace hF:=AA hF hc3
 refine A6<|Aj<|A0<|Ac<|Ae z z<|Ab<|be hF fun r2 hr3 hF=>Bf (fun l w=>∃v8:Value,∃x8:(List Int),∃v9:Value,∃x9:(List Int),∃v10:Value,∃x10:(List Int),∃v11:Value,∃x11:(List Int),.inl (x8,x9,x10,x11)=r2∧l=[(6,(ptr b4 0)),(8,(ptr b5 0))]∧Ctx [] w0 w [Ad v11 (x11:(List Int)),Ad v10 (x10:(List Int)),Ai b5 [v8,v9],Ad v8 (x8:(List Int)),Ad v9 (x9:(List Int)),Ai b4 [v10,v11]]) ?_ ?_
 ·refine AB ?_
  have hC71:=hC9.triv (nil_val (α:=Int))
  have hC72:=hC71.triv (nil_val (α:=Int))
  have hC73:=hC72.f7
  have hC74:=hC73.f7
  have hC75:=hC74.f7
  have hC76:=hC75.f7
  have hC77:=hC76.f7
  have hC78:=hC77.f7
  have hC79:=hC78.f6
  have hC80:=hC79.f7
  refine wS (l':=[(4,(ptr b2 0)),(5,(ptr b3 0)),(6,(ptr b4 0)),(8,(ptr b5 0)),(9,(I 0))]) ⟨z,z,z,z,z,Ah⟩<|Bo (fun k l w=>∃v4:Value,∃x3:(List Int),∃v5:Value,∃x4:(List Int),∃v6:Value,∃x5:(List Int),∃v7:Value,∃x6:(List Int),∃x7:Int,l=[(4,(ptr b2 0)),(5,(ptr b3 0)),(6,(ptr b4 0)),(8,(ptr b5 0)),(9,(I x7))]∧Ctx [] w0 w [Ad v7 (x6:(List Int)),Ad v6 (x5:(List Int)),Ai b5 [v4,v5],Ad v4 (x3:(List Int)),Ad v5 (x4:(List Int)),Ai b4 [v6,v7],Ai b3 [(I a3.1),u4],Ai b2 [(I a2.1),u3]]∧S.MatchAtom_l1 a2 a3 k x3 x4 x5 x6 x7=some r2) FUEL ⟨v2,x1.1,v3,x1.2,(.slice none 0 0),[],(.slice none 0 0),[],0,z,hC80,hr3⟩<|?_
  clear hr3
  rintro k1 _ w11 ⟨v4,x3,v5,x4,v6,x5,v7,x6,x7,rfl,hC36,hL1⟩
  cases k1 with
  | zero=>rw [S.MatchAtom_l1] at hL1; cases hL1
  | succ k1 =>
   rw [S.MatchAtom_l1] at hL1
   refine A0<|Ac<|Af z z<|fd AZ Au z z z z<|Al hC36 7 z z At z z<|AL Ag g3 z z<|AW z z z<|Ab<|A7 z (fun hc4=>?_) (fun hc4=>?_)
   ·replace hL1:=A9 hL1 hc4
    refine A6<|Aj<|A0<|AB<|A0<|W_drawn 8 z hmix fun w12 hB9=>have hC37:=hC36.grow hB9;tf 1 AZ Au z z z z z<|tm 3 z z z<|be hL1 fun x12 hx1 hL1=>wAS (l':=[(4,(ptr b2 0)),(5,(ptr b3 0)),(6,(ptr b4 0)),(8,(ptr b5 0)),(9,(I x7)),(37,(I x7)),(38,(ptr b2 1)),(39,u3),(40,(I (List.length a2.2:Int))),(41,(.bool (decide (x7 < (List.length a2.2:Int))))),(45,(ptr b2 1)),(47,(I x7))]) ⟨z,z,z,z,z,z,z,z,z,z,z,z,Ah⟩<|Bq [⟨0,[],fun vs=>Bg (.agg #[v4,v5]),[]⟩,⟨2,[],fun vs=>Bg u3,[]⟩,⟨4,[],fun vs=>Cj [] w0 x12,[]⟩,⟨5,[],fun vs=>Bg (I x12),[]⟩] [[],[],[2],[4]] 2 z (by kernel_rfl) (by kernel_rfl) z ?_ ?_
    ·refine Aq z ?_ ?_
     ·intro w13 hB10
      refine Ax<|⟨_,z,?_⟩
      exact A4 [v4,v5] (hC37.grow hB10) 2 z z z B6 Bh z z<|Ab<|A3 (Am _ _) z z ⟨z,z⟩
     refine Aq z ?_ ?_
     ·intro w13 hB10
      refine Ax<|⟨_,z,?_⟩
      exact Al (hC37.grow hB10) 7 z z At z z<|Ab<|A3 (Am _ _) z z ⟨z,z⟩
     refine Aq z ?_ ?_
     ·intro w13 hB10
      refine AN z z z ?_
      rintro _ _ ⟨rfl,rfl⟩ _
      refine Ax<|⟨_,z,?_⟩
      exact AE Ag ty3 g3 hx1 z z z fun b6 o1 h1=>Ab<|A3 (Am _ _) z z ⟨z,_,_,z,h1⟩
     refine Aq z ?_ ?_
     ·intro w13 hB10
      refine AN z z z ?_
      rintro _ _ ⟨rfl,b6,o1,rfl,h1⟩ _
      refine Ax<|⟨_,z,?_⟩
      refine AH ty3 h1 (hC37.keep.then hB10) z z (fun v12 h2=>?_)
      obtain rfl:=By h2
      exact Ab<|A3 (Am _ _) z z ⟨z,z⟩
     exact Bl
    intro w14 hB11
    refine Av z z z ?_
    rintro _ _ ⟨rfl,rfl⟩
    refine Av z z z ?_
    rintro _ _ ⟨rfl,rfl⟩
    refine Av z z z ?_
    rintro _ _ ⟨rfl,b6,o1,rfl,h1⟩
    refine Av z z z ?_
    rintro _ _ ⟨rfl,rfl⟩
    refine Bv fun hn2 hb2=>have hC38:=hC37.grow hB11;be hL1 fun x13 hr4 hL1=>oe 6 z<|ci Tryz.call127 z z (c_S_ValueOf (x3,x4) v4 ((hC38.ro 3 z).now (AP _ _)) v5 ((hC38.ro 4 z).now (AP _ _)) x12 x13 hr4) fun w15 hB12=>have hC39:=hC38.grow hB12;Ab<|ta 7 z z z<|dn<|Aj<|be hL1 fun r3 hr5 hL1=>BH (fun l w=>∃x14:Bool,x14=r3∧l=[(4,(ptr b2 0)),(5,(ptr b3 0)),(6,(ptr b4 0)),(8,(ptr b5 0)),(9,(I x7)),(10,(I x13)),(66,(.bool x14))]∧Below w15.heap.size w15 w∧Ctx [] w0 w [Ad v7 (x6:(List Int)),Ad v6 (x5:(List Int)),Ai b5 [v4,v5],Ad v4 (x3:(List Int)),Ad v5 (x4:(List Int)),Ai b4 [v6,v7],Ai b3 [(I a3.1),u4],Ai b2 [(I a2.1),u3]]) ?_ ?_
    ·refine W_drawn 16 z hmix fun w17 hB14=>have hC41:=hC39.grow hB14;tf 0 AZ Au z z z z z<|tm 2 z z z<|oe 1 z<|Al hC41 7 z z At z z<|Ab<|be hr5 fun x15 hx2 hr5=>tk 3 z z (B8 Ag ty3 g3 hx2 z z)<|AE Ag ty3 g3 hx2 z z z fun b7 o2 h3=>Ab<|oe 4 z<|AH ty3 h3 hC41.keep z z fun v13 h4=>?_
     obtain rfl:=By h4
     refine Ab<|be hr5 fun x16 hr6 hr5=>oe 5 z<|cb Di z z (c_S_IsVar x15 x16 hr6) fun w18 hB15=>have hC42:=hC41.grow hB15;Ab<|tm 6 z z z<|BP (fun hc5=>?_) (fun hc5=>?_)
     ·replace hr5:=A9 hr5 hc5
      refine tg 8 z z z z (BG AZ z z (fun w=>⟨_,Au w⟩) z)<|Ak z z<|fd AZ Au z z z z<|Ab<|tn 10 z z z z z<|be hr5 fun x17 hx3 hr5=>wAS (l':=[(4,(ptr b2 0)),(5,(ptr b3 0)),(6,(ptr b4 0)),(8,(ptr b5 0)),(9,(I x7)),(10,(I x13)),(37,(I x7)),(38,(ptr b2 1)),(39,u3),(40,(I (List.length a2.2:Int))),(41,(.bool (decide (x7 < (List.length a2.2:Int))))),(44,(.agg #[v4,v5])),(45,(ptr b2 1)),(46,u3),(47,(I x7)),(48,(ptr b6 o1)),(49,(I x12)),(50,(I x13)),(51,(ptr b2 1)),(52,u3),(53,(I x7)),(54,(ptr b7 o2)),(55,(I x15)),(56,(.bool x16)),(57,(.bool true)),(59,(ptr b2 1)),(61,(I x7))]) ⟨z,z,z,z,z,z,z,z,z,z,z,z,z,z,z,z,z,z,z,z,z,z,z,z,z,z,z,Ah⟩<|Bq [⟨7,[],fun vs=>Bg (.agg #[v4,v5]),[]⟩,⟨9,[],fun vs=>Bg u3,[]⟩,⟨11,[],fun vs=>Cj [] w0 x17,[]⟩,⟨12,[],fun vs=>Bg (I x17),[]⟩] [[],[],[9],[11]] 3 z (by kernel_rfl) (by kernel_rfl) z ?_ ?_
      ·refine Aq z ?_ ?_
       ·intro w19 hB16
        refine Ax<|⟨_,z,?_⟩
        exact Ak z z<|A4 [v4,v5] (hC42.grow hB16) 2 z z z B6 Bh z z<|Ab<|A3 (Am _ _) z z ⟨z,z⟩
       refine Aq z ?_ ?_
       ·intro w19 hB16
        refine Ax<|⟨_,z,?_⟩
        exact Ak z z<|Al (hC42.grow hB16) 7 z z At z z<|Ab<|A3 (Am _ _) z z ⟨z,z⟩
       refine Aq z ?_ ?_
       ·intro w19 hB16
        refine AN z z z ?_
        rintro _ _ ⟨rfl,rfl⟩ _
        refine Ax<|⟨_,z,?_⟩
        exact Ak z z<|AE Ag ty3 g3 hx3 z z z fun b8 o3 h5=>Ab<|A3 (Am _ _) z z ⟨z,_,_,z,h5⟩
       refine Aq z ?_ ?_
       ·intro w19 hB16
        refine AN z z z ?_
        rintro _ _ ⟨rfl,b8,o3,rfl,h5⟩ _
        refine Ax<|⟨_,z,?_⟩
        refine Ak z z<|AH ty3 h5 (hC42.keep.then hB16) z z fun v14 h6=>?_
        obtain rfl:=By h6
        exact Ab<|A3 (Am _ _) z z ⟨z,z⟩
       exact Bl
      intro w20 hB17
      refine Av z z z ?_
      rintro _ _ ⟨rfl,rfl⟩
      refine Av z z z ?_
      rintro _ _ ⟨rfl,rfl⟩
      refine Av z z z ?_
      rintro _ _ ⟨rfl,b8,o3,rfl,h5⟩
      refine Av z z z ?_
      rintro _ _ ⟨rfl,rfl⟩
      refine Bv fun hn3 hb3=>have hC43:=hC42.grow hB17;be hr5 fun x18 hr7 hr5=>oe 13 z<|Ak z z<|cb Tryz.call213 z z (c_S_l4Bound (x3,x4) v4 ((hC43.ro 3 z).now (AP _ _)) v5 ((hC43.ro 4 z).now (AP _ _)) x17 x18 hr7) fun w21 hB18=>have hC44:=hC43.grow hB18;Ab<|tg 14 z z z z (Cs z)<|Ak z z<|Bw z z<|Ab<|tp 15 z z z z<|dn<|?_
      obtain rfl:=Aa hr5
      exact An (l':=[(4,(ptr b2 0)),(5,(ptr b3 0)),(6,(ptr b4 0)),(8,(ptr b5 0)),(9,(I x7)),(10,(I x13)),(66,(.bool (!x18)))]) ⟨z,z,z,z,z,z,z,Ah⟩<|⟨(!x18),z,z,((((Ap hB14).then hB15).then hB17).then hB18).below,hC44⟩
     replace hr5:=AA hr5 hc5
     refine sk 7 z z z z z<|sk 8 z z z z z<|sk 9 z z z z z<|sk 10 z z z z z<|sk 11 z z z z z<|sk 12 z z z z z<|sk 13 z z z z z<|sk 14 z z z z z<|tq 15 z z z z<|dn<|?_
     obtain rfl:=Aa hr5
     exact An (l':=[(4,(ptr b2 0)),(5,(ptr b3 0)),(6,(ptr b4 0)),(8,(ptr b5 0)),(9,(I x7)),(10,(I x13)),(66,(.bool false))]) ⟨z,z,z,z,z,z,z,Ah⟩<|⟨false,z,z,((Ap hB14).then hB15).below,hC42⟩
    rintro _ w16 ⟨x14,rfl,rfl,hB13,hC40⟩
    try dsimp only at hL1
    refine A7 z (fun hc6=>?_) (fun hc6=>?_)
    ·replace hL1:=A9 hL1 hc6
     refine W_drawn 13 z hmix fun w22 hB19=>have hC45:=hC40.grow hB19;tf 1 AZ Au z z z z z<|tm 3 z z z<|tf 6 AF Au z z z z z<|tm 8 z z z<|be hL1 fun x19 hx4 hL1=>be hL1 fun x20 hx5 hL1=>wAS (l':=[(4,(ptr b2 0)),(5,(ptr b3 0)),(6,(ptr b4 0)),(8,(ptr b5 0)),(9,(I x7)),(10,(I x13)),(66,(.bool x14)),(68,(ptr b2 1)),(70,(I x7)),(73,(ptr b3 1)),(75,(I x7))]) ⟨z,z,z,z,z,z,z,z,z,z,z,Ah⟩<|Bq [⟨0,[],fun vs=>Bg (.agg #[v4,v5]),[]⟩,⟨2,[],fun vs=>Bg u3,[]⟩,⟨4,[],fun vs=>Cj [] w0 x19,[]⟩,⟨5,[],fun vs=>Bg (I x19),[]⟩,⟨7,[],fun vs=>Bg u4,[]⟩,⟨9,[],fun vs=>Cj [] w0 x20,[]⟩,⟨10,[],fun vs=>Bg (I x20),[]⟩] [[],[],[2],[4],[],[7],[9]] 2 z (by kernel_rfl) (by kernel_rfl) z ?_ ?_
     ·refine Aq z ?_ ?_
      ·intro w23 hB20
       refine Ax<|⟨_,z,?_⟩
       exact A4 [v4,v5] (hC45.grow hB20) 2 z z z B6 Bh z z<|Ab<|A3 (Am _ _) z z ⟨z,z⟩
      refine Aq z ?_ ?_
      ·intro w23 hB20
       refine Ax<|⟨_,z,?_⟩
       exact Al (hC45.grow hB20) 7 z z At z z<|Ab<|A3 (Am _ _) z z ⟨z,z⟩
      refine Aq z ?_ ?_
      ·intro w23 hB20
       refine AN z z z ?_
       rintro _ _ ⟨rfl,rfl⟩ _
       refine Ax<|⟨_,z,?_⟩
       exact AE Ag ty3 g3 hx4 z z z fun b9 o4 h7=>Ab<|A3 (Am _ _) z z ⟨z,_,_,z,h7⟩
      refine Aq z ?_ ?_
      ·intro w23 hB20
       refine AN z z z ?_
       rintro _ _ ⟨rfl,b9,o4,rfl,h7⟩ _
       refine Ax<|⟨_,z,?_⟩
       refine AH ty3 h7 (hC45.keep.then hB20) z z (fun v15 h8=>?_)
       obtain rfl:=By h8
       exact Ab<|A3 (Am _ _) z z ⟨z,z⟩
      refine Aq z ?_ ?_
      ·intro w23 hB20
       refine Ax<|⟨_,z,?_⟩
       exact Al (hC45.grow hB20) 6 z z At z z<|Ab<|A3 (Am _ _) z z ⟨z,z⟩
      refine Aq z ?_ ?_
      ·intro w23 hB20
       refine AN z z z ?_
       rintro _ _ ⟨rfl,rfl⟩ _
       refine Ax<|⟨_,z,?_⟩
       exact AE Ag ty3 g4 hx5 z z z fun b10 o5 h9=>Ab<|A3 (Am _ _) z z ⟨z,_,_,z,h9⟩
      refine Aq z ?_ ?_
      ·intro w23 hB20
       refine AN z z z ?_
       rintro _ _ ⟨rfl,b10,o5,rfl,h9⟩ _
       refine Ax<|⟨_,z,?_⟩
       refine AH ty3 h9 (hC45.keep.then hB20) z z (fun v16 h10=>?_)
       obtain rfl:=By h10
       exact Ab<|A3 (Am _ _) z z ⟨z,z⟩
      exact Bl
     intro w24 hB21
     refine Av z z z ?_
     rintro _ _ ⟨rfl,rfl⟩
     refine Av z z z ?_
     rintro _ _ ⟨rfl,rfl⟩
     refine Av z z z ?_
     rintro _ _ ⟨rfl,b9,o4,rfl,h7⟩
     refine Av z z z ?_
     rintro _ _ ⟨rfl,rfl⟩
     refine Av z z z ?_
     rintro _ _ ⟨rfl,rfl⟩
     refine Av z z z ?_
     rintro _ _ ⟨rfl,b10,o5,rfl,h9⟩
     refine Av z z z ?_
     rintro _ _ ⟨rfl,rfl⟩
     refine Bv fun hn4 hb4=>have hC46:=hC45.grow hB21;be hL1 fun x21 hr8 hL1=>oe 11 z<|Bc Tryz.call214 z z (c_S_l4Bind (x3,x4) v4 ((hC46.ro 3 z).now (AP _ _)) v5 ((hC46.ro 4 z).now (AP _ _)) x19 x20 x21 hr8)<|?_
     rintro v17 w25 ⟨hB22,F2,hv5,hn5,hb5⟩
     have hC47:=hC46.push hB22 (A:=Ad v17 x21) hv5 hn5 hb5
     obtain ⟨v18,v19,rfl,hC48⟩:=st149_own hC47
     refine Ab<|oe 12 z<|AS (cs':=[v18,v19]) (new:=[v18,v19]) hC48 4 z z (fac (B1 (hC48.ro 0 z))<|fac (B1 (hC48.ro 1 z))<|fa0) z Bh z z fun w26 hC49 hKp3=>?_
     try dsimp only [List.set] at hC49
     exact Ab<|dn<|AJ<|Aj<|AX<|Af z z<|Be z z z<|Ae z z<|Ab<|have hC50:=hC49.f9;have hC51:=hC50.f9;have hC52:=hC51.f9;have hC53:=hC52.f4;have hC54:=hC53.f4;have hC55:=hC54.f7;have hC56:=hC55.f7;have hC57:=hC56.f7;have hC58:=hC57.h8;An (l':=[(4,(ptr b2 0)),(5,(ptr b3 0)),(6,(ptr b4 0)),(8,(ptr b5 0)),(9,(I (w64 (x7+1))))]) ⟨z,z,z,z,z,Ah⟩<|⟨k1,Az _,v18,x21.1,v19,x21.2,v6,x5,v7,x6,w64 (x7+1),z,hC58,hL1⟩
    replace hL1:=AA hL1 hc6
    refine Ac<|Af z z<|fd AF Au z z z z<|Al hC40 6 z z At z z<|Af z z<|be hL1 fun x22 hx6 hL1=>AE Ag ty3 g4 hx6 z z z fun b11 o6 h11=>AH ty3 h11 hC40.keep z z fun v20 h12=>?_
    obtain rfl:=By h12
    refine BI z z z<|Ab<|A7 z (fun hc7=>?_) (fun hc7=>?_)
    ·replace hL1:=A9 hL1 hc7
     refine Ac<|Ck (vs:=[]) z z z built149<|AS (cs':=[(.slice none 0 0),(.slice none 0 0)]) (new:=[(.slice none 0 0),(.slice none 0 0)]) hC40 5 z z (fac z<|fac z<|fa0) z Bh z z fun w27 hC59 hKp4=>?_
     try dsimp only [List.set] at hC59
     refine Ae z z<|Ab<|AC<|AU<|Ar<|Ar<|AU<|Ar<|Ar<|?_
     obtain rfl:=Aa hL1
     dsimp only at hF
     obtain rfl:=Aa hF
     refine Dn z (rv_cell_agg (cs':=[(.slice none 0 0),(.slice none 0 0)]) hC59 (i:=5) z z z B6 Bh z) (rv_tmp z) ?_
     have hC60:=hC59.triv (BU (false))
     have hC62:=hC60.triv (nil_val (α:=Int))
     have hC63:=hC62.triv (nil_val (α:=Int))
     have hC61:=Ci (.slice none 0 0) ([]) (.slice none 0 0) ([]) hC63
     exact ⟨_,z,res2_of hC61⟩
    replace hL1:=AA hL1 hc7
    exact A6<|AJ<|Aj<|AX<|Af z z<|Be z z z<|Ae z z<|Ab<|An (l':=[(4,(ptr b2 0)),(5,(ptr b3 0)),(6,(ptr b4 0)),(8,(ptr b5 0)),(9,(I (w64 (x7+1))))]) ⟨z,z,z,z,z,Ah⟩<|⟨k1,Az _,v4,x3,v5,x4,v6,x5,v7,x6,w64 (x7+1),z,hC40,hL1⟩
   replace hL1:=AA hL1 hc4
   refine Bm (A2 (A2 (AT ?_)))
   obtain rfl:=Aa hL1
   have hC64:=hC36.f5
   have hC65:=hC64.f5
   have hC66:=hC65.f5
   have hC67:=hC66.f5
   have hC68:=hC67.f5
   have hC69:=hC68.f5
   have hC70:=hC69.h6
   exact An (l':=[(6,(ptr b4 0)),(8,(ptr b5 0))]) ⟨z,z,Ah⟩<|⟨v4,x3,v5,x4,v6,x5,v7,x6,z,z,hC70⟩
 rintro l4 _ w28 hs4 ⟨v8,x8,v9,x9,v10,x10,v11,x11,rfl,rfl,hC81⟩
 try dsimp only at hF
 refine AO hs4 ?_
 clear hs4
 refine Ac<|A4 [v8,v9] hC81 2 z z z B6 Bh z z<|AS (cs':=[v8,v9]) (new:=[v8,v9]) hC81 5 z z (fac (B1 (hC81.ro 3 z))<|fac (B1 (hC81.ro 4 z))<|fa0) z Bh z z fun w29 hC82 hKp5=>?_
 try dsimp only [List.set] at hC82
 refine Ae z z<|Ab<|AC<|?_
 obtain rfl:=Aa hF
 refine Dn z (rv_cell_agg (cs':=[v8,v9]) hC82 (i:=5) z z z B6 Bh z) (rv_tmp z) ?_
 have hC83:=hC82.triv (BU (true))
 have hC85:=hC83.f5
 have hC86:=hC85.f5
 have hC84:=Ci v8 x8 v9 x9 hC86
 exact ⟨_,z,res2_of hC84⟩
theorem c_S_l4Extend {w0:World} (a1:(List ((List Int) × (List Int)))) (u1:Value) (g1:RO [] w0 u1 a1) (a2:(Int × (List Int))) (u2:Value) (g2:RO [] w0 u2 a2.2) (a3:(List (Int × (List Int)))) (u3:Value) (g3:RO [] w0 u3 a3) (rr:(List ((List Int) × (List Int)))) (hF:S.l4Extend a1 a2 a3=some rr) :
 Calls Tryz.prog 128 [u1,(.agg #[(I a2.1),u2]),u3].toArray w0 fun e w'=>∃v,e=.returned v∧Res w0 rr v w':=by
 refine Aw Tryz.func128 z z ?_
 have hC0:=A1 w0
 unfold S.l4Extend at hF
 refine Ac<|Bb (cs:=[(I a2.1),u2]) hC0 z z z fun b1 w1 hC1 hB1 hN1=>Ae z z<|Ab<|Ac<|A8 (vs:=[]) hC1 B5 ty149 z z z z (by simp) z z fun b2 w2 hC2 hB2=>?_
 have hC3:=hC2.row0 (α:=((List Int) × (List Int)))
 have hC4:=hC3.front 1 z
 dsimp only [List.eraseIdx,List.cons_append,List.nil_append,List.append_nil] at hC4
 have hC5:Ctx [] w0 w2 (Ad (.slice (some ⟨b2,0,none⟩) 0 0) (([]:List ((List Int) × (List Int))):List ((List Int) × (List Int)))::[Ai b1 [(I a2.1),u2]]):=hC4.rowOwn (by simp [maxLen])
 refine Ae z z<|Ab<|A0<|Ac<|Ae z z<|Ab<|be hF fun r1 hr1 hF=>Bf (fun l w=>∃v2:Value,∃x3:(List ((List Int) × (List Int))),x3=r1∧l=[(7,v2)]∧Ctx [] w0 w [Ad v2 (x3:(List ((List Int) × (List Int))))]) ?_ ?_
 ·refine AB<|wS (l':=[(0,u1),(2,u3),(4,(ptr b1 0)),(7,(.slice (some ⟨b2,0,none⟩) 0 0)),(8,(I 0))]) ⟨z,z,z,z,z,Ah⟩<|Bo (fun k l w=>∃v1:Value,∃x1:(List ((List Int) × (List Int))),∃x2:Int,l=[(0,u1),(2,u3),(4,(ptr b1 0)),(7,v1),(8,(I x2))]∧Ctx [] w0 w [Ad v1 (x1:(List ((List Int) × (List Int)))),Ai b1 [(I a2.1),u2]]∧S.l4Extend_l1 a1 a3 a2 k x1 x2=some r1) FUEL ⟨(.slice (some ⟨b2,0,none⟩) 0 0),([]:List ((List Int) × (List Int))),0,z,hC5,hr1⟩<|?_
  clear hr1
  rintro k1 _ w3 ⟨v1,x1,x2,rfl,hC6,hL1⟩
  cases k1 with
  | zero=>rw [S.l4Extend_l1] at hL1; cases hL1
  | succ k1 =>
   rw [S.l4Extend_l1] at hL1
   refine A0<|Ac<|Af z z<|Af z z<|AL B5 g1 z z<|AW z z z<|Ab<|A7 z (fun hc1=>?_) (fun hc1=>?_)
   ·replace hL1:=A9 hL1 hc1
    refine A6<|Aj<|A0<|AB<|Ac<|Ae z z<|Ab<|be hL1 fun r2 hr2 hL1=>Bf (fun l w=>∃v4:Value,∃x6:(List ((List Int) × (List Int))),x6=r2∧l=[(0,u1),(2,u3),(4,(ptr b1 0)),(7,v4),(8,(I x2))]∧Ctx [] w0 w [Ad v4 (x6:(List ((List Int) × (List Int)))),Ai b1 [(I a2.1),u2]]) ?_ ?_
    ·refine AB<|wS (l':=[(0,u1),(2,u3),(4,(ptr b1 0)),(7,v1),(8,(I x2)),(9,(I 0))]) ⟨z,z,z,z,z,z,Ah⟩<|Bo (fun k l w=>∃v3:Value,∃x4:(List ((List Int) × (List Int))),∃x5:Int,l=[(0,u1),(2,u3),(4,(ptr b1 0)),(7,v3),(8,(I x2)),(9,(I x5))]∧Ctx [] w0 w [Ad v3 (x4:(List ((List Int) × (List Int)))),Ai b1 [(I a2.1),u2]]∧S.l4Extend_l2 a3 a1 x2 a2 k x4 x5=some r2) FUEL ⟨v1,x1,0,z,hC6,hr2⟩<|?_
     clear hr2
     rintro k2 _ w4 ⟨v3,x4,x5,rfl,hC7,hL2⟩
     cases k2 with
     | zero=>rw [S.l4Extend_l2] at hL2; cases hL2
     | succ k2 =>
      rw [S.l4Extend_l2] at hL2
      refine A0<|Ac<|Af z z<|Af z z<|AL Ao g3 z z<|AW z z z<|Ab<|A7 z (fun hc2=>?_) (fun hc2=>?_)
      ·replace hL2:=A9 hL2 hc2
       refine A6<|Aj<|A0<|AB<|be hL2 fun r3 hr3 hL2=>BH (fun l w=>∃x7:Bool,∃b3:Nat,∃v5:Value,∃x8:(List Int),∃v6:Value,∃x9:(List Int),(x7,x8,x9)=r3∧l=[(0,u1),(2,u3),(4,(ptr b1 0)),(7,v3),(8,(I x2)),(9,(I x5)),(10,(ptr b3 0)),(11,(.bool x7))]∧Ctx [] w0 w [Ai b3 [v5,v6],Ad v5 (x8:(List Int)),Ad v6 (x9:(List Int)),Ad v3 (x4:(List ((List Int) × (List Int)))),Ai b1 [(I a2.1),u2]]) ?_ ?_
       ·refine W_drawn 16 z hmix fun w6 hB6=>have hC9:=hC7.grow hB6;tm 0 z z z<|tm 1 z z z<|be hr3 fun x10 hx1 hr3=>tk 2 z z (B8 B5 ty149 g1 hx1 z z)<|AE B5 ty149 g1 hx1 z z z fun b4 o1 h1=>Ab<|tm 5 z z z<|tm 6 z z z<|be hr3 fun x11 hx2 hr3=>tk 7 z z (B8 Ao ty77 g3 hx2 z z)<|AE Ao ty77 g3 hx2 z z z fun b5 o2 h2=>Ab<|be hr3 fun x12 hr4 hr3=>wAS (l':=[(0,u1),(2,u3),(4,(ptr b1 0)),(7,v3),(8,(I x2)),(9,(I x5)),(19,(I x5)),(20,u3),(21,(I (List.length a3:Int))),(22,(.bool (decide (x5 < (List.length a3:Int))))),(26,u1),(27,(I x2)),(28,(ptr b4 o1)),(31,u3),(32,(I x5)),(33,(ptr b5 o2))]) ⟨z,z,z,z,z,z,z,z,z,z,z,z,z,z,z,z,Ah⟩<|WA_postsO [⟨3,[],fun vs=>Cc [] w0 x10,[]⟩,⟨4,[],fun vs=>Bg (.agg #[(I a2.1),u2]),[]⟩,⟨8,[],fun vs=>Cc [] w0 x11,[]⟩,⟨9,[],fun vs=>PW.own2 (x12.1:((List Int) × (List Int))) (x12.2:Bool),[]⟩,⟨10,[35],fun vs=>Bg (vs.getD 0 undef),[]⟩,⟨11,[25],fun vs=>PW.comp (vs.getD 0 undef) 0,[]⟩,⟨12,[25],fun vs=>PW.comp (vs.getD 0 undef) 1,[]⟩,⟨13,[],fun vs=>PW.box [(.slice none 0 0),(.slice none 0 0)],[]⟩] [[],[],[],[3,4,8],[9],[9,10],[9,10],[]] [12] 2 z (by kernel_rfl) (by kernel_rfl) ?_ ⟨?_,?_,Ah⟩
        ·refine Aq z ?_ ?_
         ·intro w10 hB9
          refine Ax<|⟨_,z,?_⟩
          exact AH ty149 h1 (hC9.keep.then hB9) z z fun v10 h6=>Ab<|A3 (Am _ _) z z ⟨z,h6⟩
         refine Aq z ?_ ?_
         ·intro w10 hB9
          refine Ax<|⟨_,z,?_⟩
          exact A4 [(I a2.1),u2] (hC9.grow hB9) 1 z z z C6 Cd z z<|Ab<|A3 (Am _ _) z z ⟨z,z⟩
         refine Aq z ?_ ?_
         ·intro w10 hB9
          refine Ax<|⟨_,z,?_⟩
          exact AH ty77 h2 (hC9.keep.then hB9) z z fun v13 h9=>Ab<|A3 (Am _ _) z z ⟨z,h9⟩
         refine Aq z ?_ ?_
         ·intro w10 hB9
          refine AN z z z ?_
          rintro v10 _ ⟨rfl,h6⟩ _
          obtain ⟨v8,v9,rfl,h4,h5⟩:=CD h6
          refine AN z z z ?_
          rintro _ _ ⟨rfl,rfl⟩ _
          refine AN z z z ?_
          rintro v13 _ ⟨rfl,h9⟩ _
          obtain ⟨v12,rfl,h8⟩:=BM h9
          refine Ax<|⟨_,z,?_⟩
          refine Bc Tryz.call180 z z (c_S_MatchAtom x10 v8 (h4.now (hC9.keep.then hB9)) v9 (h5.now (hC9.keep.then hB9)) (a2.1,a2.2) u2 (g2.now (hC9.keep.then hB9)) x11 v12 (h8.now (hC9.keep.then hB9)) x12 hr4) ?_
          rintro _ w7 ⟨hB7,v14,v15,F1,F2,rfl,hv1,hv2,hn1,hb1⟩
          exact Ab<|BW (F:=F1 ++ F2) hB7 z z ⟨_,_,_,_,z,z,hv1,hv2⟩ (by simpa using hn1) (fun b h=>hb1 b (by simpa using h)) (fun b h=>by simp only [List.mem_append] at h; rcases h with h | h <;> first | exact Val.inh hv1 b h | exact Val.inh hv2 b h)
         refine Aq z ?_ ?_
         ·intro w10 hB9
          refine AN z z z ?_
          rintro _ _ ⟨v14,v15,F1,F2,rfl,rfl,hv1,hv2⟩ _
          obtain ⟨rfl,rfl⟩:=val_bool hv2
          obtain ⟨v16,v17,rfl,h10,h11⟩:=CD (CO hv1)
          refine Ax<|⟨_,z,?_⟩
          exact Af z z<|Ab<|A3 (Am _ _) z z ⟨z,z⟩
         refine Aq z ?_ ?_
         ·intro w10 hB9
          refine AN z z z ?_
          rintro _ _ ⟨v14,v15,F1,F2,rfl,rfl,hv1,hv2⟩ _
          obtain ⟨rfl,rfl⟩:=val_bool hv2
          obtain ⟨v16,v17,rfl,h10,h11⟩:=CD (CO hv1)
          refine AN z z z ?_
          rintro _ _ ⟨rfl,rfl⟩ _
          refine Ax<|⟨_,z,?_⟩
          exact BJ z z z<|Ab<|A3 (Am _ _) z z ⟨⟨_,z,z⟩,z⟩
         refine Aq z ?_ ?_
         ·intro w10 hB9
          refine AN z z z ?_
          rintro _ _ ⟨v14,v15,F1,F2,rfl,rfl,hv1,hv2⟩ _
          obtain ⟨rfl,rfl⟩:=val_bool hv2
          obtain ⟨v16,v17,rfl,h10,h11⟩:=CD (CO hv1)
          refine AN z z z ?_
          rintro _ _ ⟨rfl,rfl⟩ _
          refine Ax<|⟨_,z,?_⟩
          exact BJ z z z<|Ab<|A3 (Am _ _) z z ⟨⟨_,z,z⟩,z⟩
         refine Aq z ?_ ?_
         ·intro w10 hB9
          refine Ax<|⟨_,z,?_⟩
          exact WL_alloc (A1 _) zero149 z z fun b6 w9 hC10 hB8=>Ab<|Cy hC10 z z (fun F h=>⟨b6,z,h⟩)
         exact Bl
        ·intro g' hg'
         obtain rfl:g'=2:=hg'
         intro w11 hB10
         refine Av z z z ?_
         rintro v10 _ ⟨rfl,h6⟩
         obtain ⟨v8,v9,rfl,h4,h5⟩:=CD h6
         refine Av z z z ?_
         rintro _ _ ⟨rfl,rfl⟩
         refine Av z z z ?_
         rintro v13 _ ⟨rfl,h9⟩
         obtain ⟨v12,rfl,h8⟩:=BM h9
         refine Av z z z ?_
         rintro _ _ ⟨v14,v15,F1,F2,rfl,rfl,hv1,hv2⟩
         obtain ⟨rfl,rfl⟩:=val_bool hv2
         refine Av z z z ?_
         rintro _ _ ⟨rfl,rfl⟩
         refine Av z z z ?_
         rintro _ _ ⟨⟨_,hx3,hx4⟩,rfl⟩
         obtain rfl:=Value.tuple.inj hx3
         obtain rfl:=Aa (show (some v14:Option Value)=some _ from hx4)
         refine Av z z z ?_
         rintro _ _ ⟨⟨_,hx5,hx6⟩,rfl⟩
         obtain rfl:=Value.tuple.inj hx5
         obtain rfl:=Aa (show (some (.bool x12.2):Option Value)=some _ from hx6)
         refine Av z z z ?_
         rintro _ F3 ⟨b6,rfl,hv3⟩
         refine Bv ?_
         intro hn2 hb2
         have hC11:=hC9.pushL hB10 (Bs:=[Ai b6 [(.slice none 0 0),(.slice none 0 0)],Ad v14 (x12.1:((List Int) × (List Int)))]) (Fs:=[F3,F1]) ⟨F3,_,z,hv3,F1,_,z,hv1,z⟩ (by simpa using hn2) (fun b h=>(hb2 b (by simpa using h)).1)
         have hC12:=hC11.f1
         obtain ⟨v18,v19,rfl,hC13⟩:=st149_own hC12
         refine oe 14 z<|AS (cs':=[v18,v19]) (new:=[v18,v19]) hC13 2 z z (fac (B1 (hC13.ro 0 z))<|fac (B1 (hC13.ro 1 z))<|fa0) z Bh z z fun w12 hC14 hKp1=>?_
         try dsimp only [List.set] at hC14
         refine Ab<|ta 15 z z z<|dn<|?_
         obtain rfl:=Aa hr3
         have hC15:=hC14.f4
         have hC16:=hC15.f4
         have hC17:=hC16.f3
         have hC18:=hC17.f3
         have hC19:=hC18.f4
         exact An (l':=[(0,u1),(2,u3),(4,(ptr b1 0)),(7,v3),(8,(I x2)),(9,(I x5)),(10,(ptr b6 0)),(11,(.bool x12.2))]) ⟨z,z,z,z,z,z,z,z,Ah⟩<|⟨x12.2,b6,v18,x12.1.1,v19,x12.1.2,z,z,hC19⟩
        intro g' hg'
        obtain rfl:g'=3:=hg'
        intro w11 hB10
        refine Av z z z ?_
        rintro v10 _ ⟨rfl,h6⟩
        obtain ⟨v8,v9,rfl,h4,h5⟩:=CD h6
        refine Av z z z ?_
        rintro _ _ ⟨rfl,rfl⟩
        refine Av z z z ?_
        rintro v13 _ ⟨rfl,h9⟩
        obtain ⟨v12,rfl,h8⟩:=BM h9
        refine Av z z z ?_
        rintro _ _ ⟨v14,v15,F1,F2,rfl,rfl,hv1,hv2⟩
        obtain ⟨rfl,rfl⟩:=val_bool hv2
        refine Av z z z ?_
        rintro _ _ ⟨rfl,rfl⟩
        refine Av z z z ?_
        rintro _ _ ⟨⟨_,hx3,hx4⟩,rfl⟩
        obtain rfl:=Value.tuple.inj hx3
        obtain rfl:=Aa (show (some v14:Option Value)=some _ from hx4)
        refine Av z z z ?_
        rintro _ F3 ⟨b6,rfl,hv3⟩
        refine Bv ?_
        intro hn2 hb2
        have hC11:=hC9.pushL hB10 (Bs:=[Ai b6 [(.slice none 0 0),(.slice none 0 0)],Ad v14 (x12.1:((List Int) × (List Int)))]) (Fs:=[F3,F1]) ⟨F3,_,z,hv3,F1,_,z,hv1,z⟩ (by simpa using hn2) (fun b h=>(hb2 b (by simpa using h)).1)
        have hC12:=hC11.f1
        obtain ⟨v18,v19,rfl,hC13⟩:=st149_own hC12
        refine tk 12 z z (fl_extract z z)<|BJ z z z<|Ab<|oe 14 z<|AS (cs':=[v18,v19]) (new:=[v18,v19]) hC13 2 z z (fac (B1 (hC13.ro 0 z))<|fac (B1 (hC13.ro 1 z))<|fa0) z Bh z z fun w12 hC14 hKp1=>?_
        try dsimp only [List.set] at hC14
        refine Ab<|ta 15 z z z<|dn<|?_
        obtain rfl:=Aa hr3
        have hC15:=hC14.f4
        have hC16:=hC15.f4
        have hC17:=hC16.f3
        have hC18:=hC17.f3
        have hC19:=hC18.f4
        exact An (l':=[(0,u1),(2,u3),(4,(ptr b1 0)),(7,v3),(8,(I x2)),(9,(I x5)),(10,(ptr b6 0)),(11,(.bool x12.2))]) ⟨z,z,z,z,z,z,z,z,Ah⟩<|⟨x12.2,b6,v18,x12.1.1,v19,x12.1.2,z,z,hC19⟩
       rintro _ w5 ⟨x7,b3,v5,x8,v6,x9,rfl,rfl,hC8⟩
       try dsimp only at hL2
       refine Ac<|Af z z<|Ab<|be hL2 fun r4 hr5 hL2=>Bf (fun l w=>∃v20:Value,∃x13:(List ((List Int) × (List Int))),x13=r4∧l=[(0,u1),(2,u3),(4,(ptr b1 0)),(7,v20),(8,(I x2)),(9,(I x5))]∧Ctx [] w0 w [Ad v20 (x13:(List ((List Int) × (List Int)))),Ai b1 [(I a2.1),u2]]) ?_ ?_
       ·refine A7 z (fun hc3=>?_) (fun hc3=>?_)
        ·replace hr5:=A9 hr5 hc3
         refine AX<|Af z z<|A4 [v5,v6] hC8 0 z z z B6 Bh z z<|A8 (vs:=[(.agg #[v5,v6])]) hC8 B5 ty149 z z z z (fac z<|fa0) z z fun b7 w14 hC21 hB12=>?_
         have hC22:=hC21.row0 (α:=((List Int) × (List Int)))
         have hC24:=hC22.f4
         have hC25:=hC24.f4
         have hC23:=Ci v5 x8 v6 x9 hC25
         have hC26:=hC23.row1
         have hC27:=hC26.front 1 z
         dsimp only [List.eraseIdx,List.cons_append,List.nil_append,List.append_nil] at hC27
         have hC28:Ctx [] w0 w14 (Ad (.slice (some ⟨b7,0,none⟩) 1 1) ([(x8,x9)]:List ((List Int) × (List Int)))::[Ai b3 [v5,v6],Ad v3 (x4:(List ((List Int) × (List Int)))),Ai b1 [(I a2.1),u2]]):=hC27.rowOwn (by simp [maxLen])
         refine be hr5 fun x14 hx7 hr5=>BA hC28 1 z B5 ty149 z hx7 z z z fun v21 w15 hC29=>?_
         try dsimp only [List.set] at hC29
         refine Ae z z<|Ab<|?_
         obtain rfl:=Aa hr5
         have hC31:=hC29.f2
         have hC32:=hC31.f2
         have hC33:=hC32.h2
         exact An (l':=[(0,u1),(2,u3),(4,(ptr b1 0)),(7,v21),(8,(I x2)),(9,(I x5))]) ⟨z,z,z,z,z,z,Ah⟩<|⟨v21,x14,z,z,hC33⟩
        replace hr5:=AA hr5 hc3
        refine A6 ?_
        obtain rfl:=Aa hr5
        have hC34:=hC8.f4
        have hC35:=hC34.f4
        have hC36:=hC35.h2
        exact An (l':=[(0,u1),(2,u3),(4,(ptr b1 0)),(7,v3),(8,(I x2)),(9,(I x5))]) ⟨z,z,z,z,z,z,Ah⟩<|⟨v3,x4,z,z,hC36⟩
       rintro l4 _ w13 hs4 ⟨v20,x13,rfl,rfl,hC20⟩
       try dsimp only at hL2
       refine AJ<|AO hs4<|?_
       clear hs4
       exact AX<|Af z z<|Be z z z<|Ae z z<|Ab<|An (l':=[(0,u1),(2,u3),(4,(ptr b1 0)),(7,v20),(8,(I x2)),(9,(I (w64 (x5+1))))]) ⟨z,z,z,z,z,z,Ah⟩<|⟨k2,Az _,v20,x13,w64 (x5+1),z,hC20,hL2⟩
      replace hL2:=AA hL2 hc2
      refine Bm (A2 (A2 (AT ?_)))
      obtain rfl:=Aa hL2
      exact An (l':=[(0,u1),(2,u3),(4,(ptr b1 0)),(7,v3),(8,(I x2))]) ⟨z,z,z,z,z,Ah⟩<|⟨v3,x4,z,z,hC7⟩
    rintro l5 _ w16 hs5 ⟨v4,x6,rfl,rfl,hC37⟩
    try dsimp only at hL1
    refine AJ<|AO hs5<|?_
    clear hs5
    exact AX<|Af z z<|Be z z z<|Ae z z<|Ab<|An (l':=[(0,u1),(2,u3),(4,(ptr b1 0)),(7,v4),(8,(I (w64 (x2+1))))]) ⟨z,z,z,z,z,Ah⟩<|⟨k1,Az _,v4,x6,w64 (x2+1),z,hC37,hL1⟩
   replace hL1:=AA hL1 hc1
   refine Bm (A2 (A2 (AT ?_)))
   obtain rfl:=Aa hL1
   have hC38:=hC6.h1
   exact An (l':=[(7,v1)]) ⟨z,Ah⟩<|⟨v1,x1,z,z,hC38⟩
 rintro l6 _ w17 hs6 ⟨v2,x3,rfl,rfl,hC39⟩
 try dsimp only at hF
 refine AO hs6 ?_
 clear hs6
 refine Ac<|Af z z<|Ae z z<|Ab<|AC<|?_
 obtain rfl:=Aa hF
 exact Ay z z<|⟨_,z,B7 hC39 0 z⟩
theorem c_S_BindingsOf {w0:World} (a1:((List Int) × (List (Int × (List Int))))) (u1:Value) (g1:RO [] w0 u1 a1.1) (u2:Value) (g2:RO [] w0 u2 a1.2) (a2:(List (Int × (List Int)))) (u3:Value) (g3:RO [] w0 u3 a2) (rr:(List ((List Int) × (List Int)))) (hF:S.BindingsOf a1 a2=some rr) :
 Calls Tryz.prog 71 [(.agg #[u1,u2]),u3].toArray w0 fun e w'=>∃v,e=.returned v∧Res w0 rr v w':=by
 refine Aw Tryz.func71 z z ?_
 have hC0:=A1 w0
 unfold S.BindingsOf at hF
 refine Ac<|Bb (cs:=[u1,u2]) hC0 z z z fun b1 w1 hC1 hB1 hN1=>Ae z z<|Ab<|Ac<|Ck (vs:=[]) z z z built149<|A8 (vs:=[(.agg #[(.slice none 0 0),(.slice none 0 0)])]) hC1 B5 ty149 z z z z (fac z<|fa0) z z fun b2 w2 hC2 hB2=>?_
 have hC3:=hC2.row0 (α:=((List Int) × (List Int)))
 have hC5:=hC3.triv (nil_val (α:=Int))
 have hC6:=hC5.triv (nil_val (α:=Int))
 have hC4:=Ci (.slice none 0 0) ([]) (.slice none 0 0) ([]) hC6
 have hC7:=hC4.row1
 have hC8:=hC7.front 1 z
 dsimp only [List.eraseIdx,List.cons_append,List.nil_append,List.append_nil] at hC8
 have hC9:Ctx [] w0 w2 (Ad (.slice (some ⟨b2,0,none⟩) 1 1) ([([],[])]:List ((List Int) × (List Int)))::[Ai b1 [u1,u2]]):=hC8.rowOwn (by simp [maxLen])
 refine Ae z z<|Ab<|A0<|Ac<|Ae z z<|Ab<|be hF fun r1 hr1 hF=>Bf (fun l w=>∃v2:Value,∃x3:(List ((List Int) × (List Int))),x3=r1∧l=[(5,v2)]∧Below w2.heap.size w2 w∧Ctx [] w0 w [Ad v2 (x3:(List ((List Int) × (List Int))))]) ?_ ?_
 ·refine AB<|wS (l':=[(1,u3),(2,(ptr b1 0)),(5,(.slice (some ⟨b2,0,none⟩) 1 1)),(6,(I 0))]) ⟨z,z,z,z,Ah⟩<|Bo (fun k l w=>∃v1:Value,∃x1:(List ((List Int) × (List Int))),∃x2:Int,l=[(1,u3),(2,(ptr b1 0)),(5,v1),(6,(I x2))]∧Below w2.heap.size w2 w∧Ctx [] w0 w [Ad v1 (x1:(List ((List Int) × (List Int)))),Ai b1 [u1,u2]]∧S.BindingsOf_l1 a1 a2 k x1 x2=some r1) FUEL ⟨(.slice (some ⟨b2,0,none⟩) 1 1),[([],[])],0,z,(Am _ _),hC9,hr1⟩<|?_
  clear hr1
  rintro k1 _ w3 ⟨v1,x1,x2,rfl,hB3,hC10,hL1⟩
  cases k1 with
  | zero=>rw [S.BindingsOf_l1] at hL1; cases hL1
  | succ k1 =>
   rw [S.BindingsOf_l1] at hL1
   refine A0<|Ac<|Af z z<|fd Bn BB z z z z<|Al hC10 1 z z BK z z<|AL Bp g2 z z<|AW z z z<|Ab<|A7 z (fun hc1=>?_) (fun hc1=>?_)
   ·replace hL1:=A9 hL1 hc1
    refine A6<|Aj<|A0<|AB<|AX<|Af z z<|fd Bn BB z z z z<|Al hC10 1 z z BK z z<|Af z z<|be hL1 fun x4 hx1 hL1=>AE Bp ty93 g2 hx1 z z z fun b3 o1 h1=>AH ty93 h1 hC10.keep z z fun v3 h2=>?_
    obtain ⟨v4,rfl,h3⟩:=Du h2
    refine Af z z<|be hL1 fun x5 hr2 hL1=>Bc Tryz.call128 z z (c_S_l4Extend x1 v1 ((hC10.ro 0 z).now (AP _ _)) x4 v4 (h3.now hC10.keep) a2 u3 (g3.now hC10.keep) x5 hr2)<|?_
    rintro v5 w4 ⟨hB4,F1,hv1,hn1,hb1⟩
    have hC11:=hC10.push hB4 (A:=Ad v5 x5) hv1 hn1 hb1
    exact Ae z z<|Ab<|AJ<|Aj<|AX<|Af z z<|Be z z z<|Ae z z<|Ab<|have hC12:=hC11.f2;have hC13:=hC12.f1;have hC14:=hC13.h2;An (l':=[(1,u3),(2,(ptr b1 0)),(5,v5),(6,(I (w64 (x2+1))))]) ⟨z,z,z,z,Ah⟩<|⟨k1,Az _,v5,x5,w64 (x2+1),z,((Ap hB3).then hB4).below,hC14,hL1⟩
   replace hL1:=AA hL1 hc1
   refine Bm (A2 (A2 (AT ?_)))
   obtain rfl:=Aa hL1
   have hC15:=hC10.h1
   exact An (l':=[(5,v1)]) ⟨z,Ah⟩<|⟨v1,x1,z,z,(Ap hB3).below,hC15⟩
 rintro l2 _ w5 hs2 ⟨v2,x3,rfl,rfl,hB5,hC16⟩
 try dsimp only at hF
 refine AO hs2 ?_
 clear hs2
 refine Ac<|Af z z<|Ae z z<|Ab<|AC<|?_
 obtain rfl:=Aa hF
 exact Ay z z<|⟨_,z,B7 hC16 0 z⟩
theorem c_S_TrustedAnswers {w0:World} (a1:(List Int)) (u1:Value) (g1:RO [] w0 u1 a1) (a2:(List (Int × (List Int) × Int × Int × Int))) (u2:Value) (g2:RO [] w0 u2 a2) (a3:((List Int) × (List (Int × (List Int))))) (u3:Value) (g3:RO [] w0 u3 a3.1) (u4:Value) (g4:RO [] w0 u4 a3.2) (a4:(List ((Int × (List Int)) × (List (Int × (List Int)))))) (u5:Value) (g5:RO [] w0 u5 a4) (rr:(List (List Int))) (hF:S.TrustedAnswers a1 a2 a3 a4=some rr) :
 Calls Tryz.prog 26 [u1,u2,(.agg #[u3,u4]),u5].toArray w0 fun e w'=>∃v,e=.returned v∧Res w0 rr v w':=by
 refine Aw Tryz.func26 z z ?_
 have hC0:=A1 w0
 unfold S.TrustedAnswers at hF
 refine Ac<|Bb (cs:=[u3,u4]) hC0 z z z fun b1 w1 hC1 hB1 hN1=>Ae z z<|Ab<|A0<|Ac<|Af z z<|A4 [u3,u4] hC1 0 z z z BL BC z z<|be hF fun x1 hr1 hF=>cb Tryz.call69 z z (c_S_IsQuery a1 u1 (g1.now hC1.keep) (a3.1,a3.2) u3 (g3.now hC1.keep) u4 (g4.now hC1.keep) x1 hr1) fun w2 hB2=>have hC2:=hC1.grow hB2;Bw z z<|Ab<|A7 z (fun hc1=>?_) (fun hc1=>?_)
 ·replace hF:=A9 hF hc1
  refine Ac<|A8 (vs:=[]) hC2 AG ty24 z z z z (by simp) z z fun b2 w3 hC3 hB3=>?_
  have hC4:=hC3.row0 (α:=(List Int))
  have hC5:=hC4.front 1 z
  dsimp only [List.eraseIdx,List.cons_append,List.nil_append,List.append_nil] at hC5
  have hC6:Ctx [] w0 w3 (Ad (.slice (some ⟨b2,0,none⟩) 0 0) (([]:List (List Int)):List (List Int))::[Ai b1 [u3,u4]]):=hC5.rowOwn (by simp [maxLen])
  refine Ae z z<|Ab<|AC<|Ar<|?_
  obtain rfl:=Aa hF
  exact Ay z z<|⟨_,z,B7 hC6 0 z⟩
 replace hF:=AA hF hc1
 refine A6<|Aj<|A0<|W_drawn 9 z hmix fun w4 hB4=>have hC7:=hC2.grow hB4;tm 2 z z z<|tm 3 z z z<|tm 4 z z z<|be hF fun x2 hr2 hF=>be hF fun x3 hr3 hF=>wAS (l':=[(0,u1),(1,u2),(2,(.agg #[u3,u4])),(3,u5),(6,(ptr b1 0)),(8,(.slice none 0 0)),(9,u1),(10,(.agg #[u3,u4])),(11,(.bool x1)),(12,(.bool (!x1))),(16,u1),(17,u2),(18,u5)]) ⟨z,z,z,z,z,z,z,z,z,z,z,z,z,Ah⟩<|Bq [⟨0,[],fun vs=>Bg (.agg #[u3,u4]),[]⟩,⟨1,[],fun vs=>Bg (.agg #[u3,u4]),[]⟩,⟨5,[],fun vs=>BX x2,[]⟩,⟨6,[],fun vs=>BX x3,[]⟩] [[],[],[],[1,5]] 2 z (by kernel_rfl) (by kernel_rfl) z ?_ ?_
 ·refine Aq z ?_ ?_
  ·intro w7 hB7
   refine Ax<|⟨_,z,?_⟩
   exact A4 [u3,u4] (hC7.grow hB7) 0 z z z BL BC z z<|Ab<|A3 (Am _ _) z z ⟨z,z⟩
  refine Aq z ?_ ?_
  ·intro w7 hB7
   refine Ax<|⟨_,z,?_⟩
   exact A4 [u3,u4] (hC7.grow hB7) 0 z z z BL BC z z<|Ab<|A3 (Am _ _) z z ⟨z,z⟩
  refine Aq z ?_ ?_
  ·intro w7 hB7
   refine Ax<|⟨_,z,?_⟩
   refine Bc Tryz.call16 z z (c_S_TrustedFacts a1 u1 (g1.now (hC7.keep.then hB7)) a2 u2 (g2.now (hC7.keep.then hB7)) a4 u5 (g5.now (hC7.keep.then hB7)) x2 hr2) ?_
   rintro v1 w5 ⟨hB5,F1,hv2,hn1,hb1⟩
   exact Ab<|BW hB5 z z hv2 hn1 hb1 (Val.inh hv2)
  refine Aq z ?_ ?_
  ·intro w7 hB7
   refine AN z z z ?_
   rintro _ _ ⟨rfl,rfl⟩ _
   refine AN z z z fun v1 F1 hv2 _=>Ax<|⟨_,z,?_⟩
   refine Bc Tryz.call71 z z (c_S_BindingsOf (a3.1,a3.2) u3 (g3.now (hC7.keep.then hB7)) u4 (g4.now (hC7.keep.then hB7)) x2 v1 (CO hv2) x3 hr3) ?_
   rintro v2 w6 ⟨hB6,F2,hv3,hn2,hb2⟩
   exact Ab<|BW hB6 z z hv3 hn2 hb2 (Val.inh hv3)
  exact Bl
 intro w9 hB8
 refine Av z z z ?_
 rintro _ _ ⟨rfl,rfl⟩
 refine Av z z z ?_
 rintro _ _ ⟨rfl,rfl⟩
 refine Av z z z fun v1 F1 hv2=>Av z z z fun v2 F2 hv3=>Bv fun hn3 hb3=>?_
 have hC8:=hC7.pushL hB8 (Bs:=[Ad v2 (x3:(List ((List Int) × (List Int)))),Ad v1 (x2:(List (Int × (List Int))))]) (Fs:=[F2,F1]) ⟨F2,_,z,hv3,F1,_,z,hv2,z⟩ (by simpa using hn3) (fun b h=>(hb3 b (by simpa using h)).1)
 refine be hF fun x4 hr4 hF=>oe 7 z<|Bc Tryz.call70 z z (c_S_l4Tuples (a3.1,a3.2) u3 (g3.now hC8.keep) u4 (g4.now hC8.keep) x3 v2 ((hC8.ro 0 z).now (AP _ _)) x4 hr4)<|?_
 rintro v3 w10 ⟨hB9,F3,hv4,hn4,hb4⟩
 have hC9:=hC8.push hB9 (A:=Ad v3 x4) hv4 hn4 hb4
 refine Ab<|ta 8 z z z<|dn<|Aj<|AC<|?_
 obtain rfl:=Aa hF
 exact Ay z z<|⟨_,z,B7 hC9 0 z⟩
theorem c_Q_szIntS {w0:World} (a1:(List Int)) (u1:Value) (g1:RO [] w0 u1 a1) (a2:Int) (rr:Int) (hF:Q.szIntS a1 a2=some rr) :
 Calls Tryz.prog 73 [u1,(I a2)].toArray w0 fun e w'=>∃v,e=.returned v∧Res w0 rr v w':=by
 refine Aw Tryz.func73 z z ?_
 have hC0:=A1 w0
 unfold Q.szIntS at hF
 refine Ac<|Ae z z<|Ab<|Ac<|Af z z<|Af z z<|AL Ag g1 z z<|Cv z z z<|Ae z z<|Ab<|A0<|Ac<|Af z z<|AW z z z<|Ab<|A7 z (fun hc1=>?_) (fun hc1=>?_)
 ·replace hF:=A9 hF hc1
  refine Ac<|Ae z z<|Ab<|AC<|Ar<|?_
  obtain rfl:=Aa hF
  exact Ay z z<|⟨_,z,Bk hC0 _⟩
 replace hF:=AA hF hc1
 refine A6<|Aj<|Ac<|Af z z<|Ae z z<|Ab<|AC<|?_
 obtain rfl:=Aa hF
 exact Ay z z<|⟨_,z,Bk hC0 _⟩
theorem c_Q_szMethod {w0:World} (a1:(Int × (List Int) × Int × Int × Int)) (u1:Value) (g1:RO [] w0 u1 a1.2.1) (a2:Int) (rr:Int) (hF:Q.szMethod a1 a2=some rr) :
 Calls Tryz.prog 72 [(.agg #[(I a1.1),u1,(I a1.2.2.1),(I a1.2.2.2.1),(I a1.2.2.2.2)]),(I a2)].toArray w0 fun e w'=>∃v,e=.returned v∧Res w0 rr v w':=by
 refine Aw Tryz.func72 z z ?_
 have hC0:=A1 w0
 unfold Q.szMethod at hF
 refine Ac<|Bb (cs:=[(I a1.1),u1,(I a1.2.2.1),(I a1.2.2.2.1),(I a1.2.2.2.2)]) hC0 z z z fun b1 w1 hC1 hB1 hN1=>Ae z z<|Ab<|Ac<|fd Ce Au z z z z<|Al hC1 0 z z At z z<|Af z z<|be hF fun x1 hr1 hF=>ci CW z z (c_Q_szIntS a1.2.1 u1 (g1.now hC1.keep) a2 x1 hr1) fun w2 hB2=>have hC2:=hC1.grow hB2;Ae z z<|Ab<|A0<|Ac<|Af z z<|AW z z z<|Ab<|A7 z (fun hc1=>?_) (fun hc1=>?_)
 ·replace hF:=A9 hF hc1
  refine Ac<|Ae z z<|Ab<|AC<|Ar<|?_
  obtain rfl:=Aa hF
  exact Ay z z<|⟨_,z,Bk hC2 _⟩
 replace hF:=AA hF hc1
 refine A6<|Aj<|Ac<|Af z z<|Ae z z<|Ab<|AC<|?_
 obtain rfl:=Aa hF
 exact Ay z z<|⟨_,z,Bk hC2 _⟩
theorem c_Q_szMethodS {w0:World} (a1:(List (Int × (List Int) × Int × Int × Int))) (u1:Value) (g1:RO [] w0 u1 a1) (a2:Int) (rr:Int) (hF:Q.szMethodS a1 a2=some rr) :
 Calls Tryz.prog 27 [u1,(I a2)].toArray w0 fun e w'=>∃v,e=.returned v∧Res w0 rr v w':=by
 refine Aw Tryz.func27 z z ?_
 have hC0:=A1 w0
 unfold Q.szMethodS at hF
 refine Ac<|Ae z z<|Ab<|Ac<|Af z z<|Af z z<|AL Cn g1 z z<|Cv z z z<|Ae z z<|Ab<|A0<|Ac<|Af z z<|AW z z z<|Ab<|A7 z (fun hc1=>?_) (fun hc1=>?_)
 ·replace hF:=A9 hF hc1
  refine Ac<|Ae z z<|Ab<|AC<|Ar<|?_
  obtain rfl:=Aa hF
  exact Ay z z<|⟨_,z,Bk hC0 _⟩
 replace hF:=AA hF hc1
 refine A6<|Aj<|A0<|Ac<|Ae z z<|Ab<|be hF fun r1 hr1 hF=>Bf (fun l w=>∃x3:Int,.inl x3=r1∧l=[(1,(I x3))]∧Below w0.heap.size w0 w∧Ctx [] w0 w []) ?_ ?_
 ·refine AB<|wS (l':=[(0,u1),(1,(I (w64 (a2 - (List.length a1:Int))))),(5,(I 0))]) ⟨z,z,z,Ah⟩<|Bo (fun k l w=>∃x1:Int,∃x2:Int,l=[(0,u1),(1,(I x1)),(5,(I x2))]∧Below w0.heap.size w0 w∧Ctx [] w0 w []∧Q.szMethodS_l1 a1 k x1 x2=some r1) FUEL ⟨w64 (a2 - (List.length a1:Int)),0,z,(Am _ _),hC0,hr1⟩<|?_
  clear hr1
  rintro k1 _ w1 ⟨x1,x2,rfl,hB1,hC1,hL1⟩
  cases k1 with
  | zero=>rw [Q.szMethodS_l1] at hL1; cases hL1
  | succ k1 =>
   rw [Q.szMethodS_l1] at hL1
   refine A0<|Ac<|Af z z<|Af z z<|AL Cn g1 z z<|AW z z z<|Ab<|A7 z (fun hc2=>?_) (fun hc2=>?_)
   ·replace hL1:=A9 hL1 hc2
    refine A6<|Aj<|A0<|AB<|Ac<|Af z z<|Af z z<|be hL1 fun x4 hx1 hL1=>AE Cn ty103 g1 hx1 z z z fun b1 o1 h1=>AH ty103 h1 hC1.keep z z fun v1 h2=>?_
    obtain ⟨v2,rfl,h3⟩:=ro_st103 h2
    refine Af z z<|be hL1 fun x5 hr2 hL1=>ci Tryz.call72 z z (c_Q_szMethod x4 v2 (h3.now hC1.keep) x1 x5 hr2) fun w2 hB2=>have hC2:=hC1.grow hB2;Ae z z<|Ab<|Ac<|Af z z<|AW z z z<|Ab<|A7 z (fun hc3=>?_) (fun hc3=>?_)
    ·replace hL1:=A9 hL1 hc3
     refine Ac<|Ae z z<|Ab<|AC<|AU<|Ar<|Ar<|AU<|Ar<|Ar<|?_
     obtain rfl:=Aa hL1
     dsimp only at hF
     obtain rfl:=Aa hF
     exact Ay z z<|⟨_,z,Bk hC2 _⟩
    replace hL1:=AA hL1 hc3
    exact A6<|AJ<|Aj<|AX<|Af z z<|Be z z z<|Ae z z<|Ab<|An (l':=[(0,u1),(1,(I x5)),(5,(I (w64 (x2+1))))]) ⟨z,z,z,Ah⟩<|⟨k1,Az _,x5,w64 (x2+1),z,((Ap hB1).then hB2).below,hC2,hL1⟩
   replace hL1:=AA hL1 hc2
   refine Bm (A2 (A2 (AT ?_)))
   obtain rfl:=Aa hL1
   exact An (l':=[(1,(I x1))]) ⟨z,Ah⟩<|⟨x1,z,z,(Ap hB1).below,hC1⟩
 rintro l2 _ w3 hs2 ⟨x3,rfl,rfl,hB3,hC3⟩
 try dsimp only at hF
 refine AO hs2 ?_
 clear hs2
 refine Ac<|Af z z<|Ae z z<|Ab<|AC<|?_
 obtain rfl:=Aa hF
 exact Ay z z<|⟨_,z,Bk hC3 _⟩
theorem c_Q_szAtom {w0:World} (a1:(Int × (List Int))) (u1:Value) (g1:RO [] w0 u1 a1.2) (a2:Int) (rr:Int) (hF:Q.szAtom a1 a2=some rr) :
 Calls Tryz.prog 129 [(.agg #[(I a1.1),u1]),(I a2)].toArray w0 fun e w'=>∃v,e=.returned v∧Res w0 rr v w':=by
 refine Aw Tryz.func129 z z ?_
 have hC0:=A1 w0
 unfold Q.szAtom at hF
 refine Ac<|Bb (cs:=[(I a1.1),u1]) hC0 z z z fun b1 w1 hC1 hB1 hN1=>Ae z z<|Ab<|Ac<|fd CR Au z z z z<|Al hC1 0 z z At z z<|Af z z<|be hF fun x1 hr1 hF=>ci CW z z (c_Q_szIntS a1.2 u1 (g1.now hC1.keep) a2 x1 hr1) fun w2 hB2=>have hC2:=hC1.grow hB2;Ae z z<|Ab<|A0<|Ac<|Af z z<|AW z z z<|Ab<|A7 z (fun hc1=>?_) (fun hc1=>?_)
 ·replace hF:=A9 hF hc1
  refine Ac<|Ae z z<|Ab<|AC<|Ar<|?_
  obtain rfl:=Aa hF
  exact Ay z z<|⟨_,z,Bk hC2 _⟩
 replace hF:=AA hF hc1
 refine A6<|Aj<|Ac<|Af z z<|Ae z z<|Ab<|AC<|?_
 obtain rfl:=Aa hF
 exact Ay z z<|⟨_,z,Bk hC2 _⟩
theorem c_Q_szAtomS {w0:World} (a1:(List (Int × (List Int)))) (u1:Value) (g1:RO [] w0 u1 a1) (a2:Int) (rr:Int) (hF:Q.szAtomS a1 a2=some rr) :
 Calls Tryz.prog 74 [u1,(I a2)].toArray w0 fun e w'=>∃v,e=.returned v∧Res w0 rr v w':=by
 refine Aw Tryz.func74 z z ?_
 have hC0:=A1 w0
 unfold Q.szAtomS at hF
 refine Ac<|Ae z z<|Ab<|Ac<|Af z z<|Af z z<|AL Co g1 z z<|Cv z z z<|Ae z z<|Ab<|A0<|Ac<|Af z z<|AW z z z<|Ab<|A7 z (fun hc1=>?_) (fun hc1=>?_)
 ·replace hF:=A9 hF hc1
  refine Ac<|Ae z z<|Ab<|AC<|Ar<|?_
  obtain rfl:=Aa hF
  exact Ay z z<|⟨_,z,Bk hC0 _⟩
 replace hF:=AA hF hc1
 refine A6<|Aj<|A0<|Ac<|Ae z z<|Ab<|be hF fun r1 hr1 hF=>Bf (fun l w=>∃x3:Int,.inl x3=r1∧l=[(1,(I x3))]∧Below w0.heap.size w0 w∧Ctx [] w0 w []) ?_ ?_
 ·refine AB<|wS (l':=[(0,u1),(1,(I (w64 (a2 - (List.length a1:Int))))),(5,(I 0))]) ⟨z,z,z,Ah⟩<|Bo (fun k l w=>∃x1:Int,∃x2:Int,l=[(0,u1),(1,(I x1)),(5,(I x2))]∧Below w0.heap.size w0 w∧Ctx [] w0 w []∧Q.szAtomS_l1 a1 k x1 x2=some r1) FUEL ⟨w64 (a2 - (List.length a1:Int)),0,z,(Am _ _),hC0,hr1⟩<|?_
  clear hr1
  rintro k1 _ w1 ⟨x1,x2,rfl,hB1,hC1,hL1⟩
  cases k1 with
  | zero=>rw [Q.szAtomS_l1] at hL1; cases hL1
  | succ k1 =>
   rw [Q.szAtomS_l1] at hL1
   refine A0<|Ac<|Af z z<|Af z z<|AL Co g1 z z<|AW z z z<|Ab<|A7 z (fun hc2=>?_) (fun hc2=>?_)
   ·replace hL1:=A9 hL1 hc2
    refine A6<|Aj<|A0<|AB<|Ac<|Af z z<|Af z z<|be hL1 fun x4 hx1 hL1=>AE Co ty152 g1 hx1 z z z fun b1 o1 h1=>AH ty152 h1 hC1.keep z z fun v1 h2=>?_
    obtain ⟨v2,rfl,h3⟩:=ro_st152 h2
    refine Af z z<|be hL1 fun x5 hr2 hL1=>ci Tryz.call129 z z (c_Q_szAtom x4 v2 (h3.now hC1.keep) x1 x5 hr2) fun w2 hB2=>have hC2:=hC1.grow hB2;Ae z z<|Ab<|Ac<|Af z z<|AW z z z<|Ab<|A7 z (fun hc3=>?_) (fun hc3=>?_)
    ·replace hL1:=A9 hL1 hc3
     refine Ac<|Ae z z<|Ab<|AC<|AU<|Ar<|Ar<|AU<|Ar<|Ar<|?_
     obtain rfl:=Aa hL1
     dsimp only at hF
     obtain rfl:=Aa hF
     exact Ay z z<|⟨_,z,Bk hC2 _⟩
    replace hL1:=AA hL1 hc3
    exact A6<|AJ<|Aj<|AX<|Af z z<|Be z z z<|Ae z z<|Ab<|An (l':=[(0,u1),(1,(I x5)),(5,(I (w64 (x2+1))))]) ⟨z,z,z,Ah⟩<|⟨k1,Az _,x5,w64 (x2+1),z,((Ap hB1).then hB2).below,hC2,hL1⟩
   replace hL1:=AA hL1 hc2
   refine Bm (A2 (A2 (AT ?_)))
   obtain rfl:=Aa hL1
   exact An (l':=[(1,(I x1))]) ⟨z,Ah⟩<|⟨x1,z,z,(Ap hB1).below,hC1⟩
 rintro l2 _ w3 hs2 ⟨x3,rfl,rfl,hB3,hC3⟩
 try dsimp only at hF
 refine AO hs2 ?_
 clear hs2
 refine Ac<|Af z z<|Ae z z<|Ab<|AC<|?_
 obtain rfl:=Aa hF
 exact Ay z z<|⟨_,z,Bk hC3 _⟩
theorem c_Q_szQuery {w0:World} (a1:((List Int) × (List (Int × (List Int))))) (u1:Value) (g1:RO [] w0 u1 a1.1) (u2:Value) (g2:RO [] w0 u2 a1.2) (a2:Int) (rr:Int) (hF:Q.szQuery a1 a2=some rr) :
 Calls Tryz.prog 28 [(.agg #[u1,u2]),(I a2)].toArray w0 fun e w'=>∃v,e=.returned v∧Res w0 rr v w':=by
 refine Aw Tryz.func28 z z ?_
 have hC0:=A1 w0
 unfold Q.szQuery at hF
 refine Ac<|Bb (cs:=[u1,u2]) hC0 z z z fun b1 w1 hC1 hB1 hN1=>Ae z z<|Ab<|Ac<|fd C7 Au z z z z<|Al hC1 0 z z At z z<|Af z z<|be hF fun x1 hr1 hF=>ci CW z z (c_Q_szIntS a1.1 u1 (g1.now hC1.keep) a2 x1 hr1) fun w2 hB2=>have hC2:=hC1.grow hB2;Ae z z<|Ab<|A0<|Ac<|Af z z<|AW z z z<|Ab<|A7 z (fun hc1=>?_) (fun hc1=>?_)
 ·replace hF:=A9 hF hc1
  refine Ac<|Ae z z<|Ab<|AC<|Ar<|?_
  obtain rfl:=Aa hF
  exact Ay z z<|⟨_,z,Bk hC2 _⟩
 replace hF:=AA hF hc1
 refine A6<|Aj<|Ac<|fd C7 Tryz.sizeOf48 z z z z<|Al hC2 0 z z Tryz.isAgg48 z z<|Af z z<|be hF fun x2 hr2 hF=>ci Tryz.call74 z z (c_Q_szAtomS a1.2 u2 (g2.now hC2.keep) x1 x2 hr2) fun w3 hB3=>have hC3:=hC2.grow hB3;Ae z z<|Ab<|A0<|Ac<|Af z z<|AW z z z<|Ab<|A7 z (fun hc2=>?_) (fun hc2=>?_)
 ·replace hF:=A9 hF hc2
  refine Ac<|Ae z z<|Ab<|AC<|Ar<|?_
  obtain rfl:=Aa hF
  exact Ay z z<|⟨_,z,Bk hC3 _⟩
 replace hF:=AA hF hc2
 refine A6<|Aj<|Ac<|Af z z<|Ae z z<|Ab<|AC<|?_
 obtain rfl:=Aa hF
 exact Ay z z<|⟨_,z,Bk hC3 _⟩
theorem c_Q_szAccess {w0:World} (a1:(Int × (List Int))) (u1:Value) (g1:RO [] w0 u1 a1.2) (a2:Int) (rr:Int) (hF:Q.szAccess a1 a2=some rr) :
 Calls Tryz.prog 130 [(.agg #[(I a1.1),u1]),(I a2)].toArray w0 fun e w'=>∃v,e=.returned v∧Res w0 rr v w':=by
 refine Aw Tryz.func130 z z ?_
 have hC0:=A1 w0
 unfold Q.szAccess at hF
 refine Ac<|Bb (cs:=[(I a1.1),u1]) hC0 z z z fun b1 w1 hC1 hB1 hN1=>Ae z z<|Ab<|Ac<|fd CS Au z z z z<|Al hC1 0 z z At z z<|Af z z<|be hF fun x1 hr1 hF=>ci CW z z (c_Q_szIntS a1.2 u1 (g1.now hC1.keep) a2 x1 hr1) fun w2 hB2=>have hC2:=hC1.grow hB2;Ae z z<|Ab<|A0<|Ac<|Af z z<|AW z z z<|Ab<|A7 z (fun hc1=>?_) (fun hc1=>?_)
 ·replace hF:=A9 hF hc1
  refine Ac<|Ae z z<|Ab<|AC<|Ar<|?_
  obtain rfl:=Aa hF
  exact Ay z z<|⟨_,z,Bk hC2 _⟩
 replace hF:=AA hF hc1
 refine A6<|Aj<|Ac<|Af z z<|Ae z z<|Ab<|AC<|?_
 obtain rfl:=Aa hF
 exact Ay z z<|⟨_,z,Bk hC2 _⟩
theorem c_Q_szFact {w0:World} (a1:(Int × (List Int))) (u1:Value) (g1:RO [] w0 u1 a1.2) (a2:Int) (rr:Int) (hF:Q.szFact a1 a2=some rr) :
 Calls Tryz.prog 181 [(.agg #[(I a1.1),u1]),(I a2)].toArray w0 fun e w'=>∃v,e=.returned v∧Res w0 rr v w':=by
 refine Aw Tryz.func181 z z ?_
 have hC0:=A1 w0
 unfold Q.szFact at hF
 refine Ac<|Bb (cs:=[(I a1.1),u1]) hC0 z z z fun b1 w1 hC1 hB1 hN1=>Ae z z<|Ab<|Ac<|fd CT Au z z z z<|Al hC1 0 z z At z z<|Af z z<|be hF fun x1 hr1 hF=>ci CW z z (c_Q_szIntS a1.2 u1 (g1.now hC1.keep) a2 x1 hr1) fun w2 hB2=>have hC2:=hC1.grow hB2;Ae z z<|Ab<|A0<|Ac<|Af z z<|AW z z z<|Ab<|A7 z (fun hc1=>?_) (fun hc1=>?_)
 ·replace hF:=A9 hF hc1
  refine Ac<|Ae z z<|Ab<|AC<|Ar<|?_
  obtain rfl:=Aa hF
  exact Ay z z<|⟨_,z,Bk hC2 _⟩
 replace hF:=AA hF hc1
 refine A6<|Aj<|Ac<|Af z z<|Ae z z<|Ab<|AC<|?_
 obtain rfl:=Aa hF
 exact Ay z z<|⟨_,z,Bk hC2 _⟩
theorem c_Q_szFactS {w0:World} (a1:(List (Int × (List Int)))) (u1:Value) (g1:RO [] w0 u1 a1) (a2:Int) (rr:Int) (hF:Q.szFactS a1 a2=some rr) :
 Calls Tryz.prog 131 [u1,(I a2)].toArray w0 fun e w'=>∃v,e=.returned v∧Res w0 rr v w':=by
 refine Aw Tryz.func131 z z ?_
 have hC0:=A1 w0
 unfold Q.szFactS at hF
 refine Ac<|Ae z z<|Ab<|Ac<|Af z z<|Af z z<|AL Cf g1 z z<|Cv z z z<|Ae z z<|Ab<|A0<|Ac<|Af z z<|AW z z z<|Ab<|A7 z (fun hc1=>?_) (fun hc1=>?_)
 ·replace hF:=A9 hF hc1
  refine Ac<|Ae z z<|Ab<|AC<|Ar<|?_
  obtain rfl:=Aa hF
  exact Ay z z<|⟨_,z,Bk hC0 _⟩
 replace hF:=AA hF hc1
 refine A6<|Aj<|A0<|Ac<|Ae z z<|Ab<|be hF fun r1 hr1 hF=>Bf (fun l w=>∃x3:Int,.inl x3=r1∧l=[(1,(I x3))]∧Below w0.heap.size w0 w∧Ctx [] w0 w []) ?_ ?_
 ·refine AB<|wS (l':=[(0,u1),(1,(I (w64 (a2 - (List.length a1:Int))))),(5,(I 0))]) ⟨z,z,z,Ah⟩<|Bo (fun k l w=>∃x1:Int,∃x2:Int,l=[(0,u1),(1,(I x1)),(5,(I x2))]∧Below w0.heap.size w0 w∧Ctx [] w0 w []∧Q.szFactS_l1 a1 k x1 x2=some r1) FUEL ⟨w64 (a2 - (List.length a1:Int)),0,z,(Am _ _),hC0,hr1⟩<|?_
  clear hr1
  rintro k1 _ w1 ⟨x1,x2,rfl,hB1,hC1,hL1⟩
  cases k1 with
  | zero=>rw [Q.szFactS_l1] at hL1; cases hL1
  | succ k1 =>
   rw [Q.szFactS_l1] at hL1
   refine A0<|Ac<|Af z z<|Af z z<|AL Cf g1 z z<|AW z z z<|Ab<|A7 z (fun hc2=>?_) (fun hc2=>?_)
   ·replace hL1:=A9 hL1 hc2
    refine A6<|Aj<|A0<|AB<|Ac<|Af z z<|Af z z<|be hL1 fun x4 hx1 hL1=>AE Cf ty188 g1 hx1 z z z fun b1 o1 h1=>AH ty188 h1 hC1.keep z z fun v1 h2=>?_
    obtain ⟨v2,rfl,h3⟩:=ro_st188 h2
    refine Af z z<|be hL1 fun x5 hr2 hL1=>ci Tryz.call181 z z (c_Q_szFact x4 v2 (h3.now hC1.keep) x1 x5 hr2) fun w2 hB2=>have hC2:=hC1.grow hB2;Ae z z<|Ab<|Ac<|Af z z<|AW z z z<|Ab<|A7 z (fun hc3=>?_) (fun hc3=>?_)
    ·replace hL1:=A9 hL1 hc3
     refine Ac<|Ae z z<|Ab<|AC<|AU<|Ar<|Ar<|AU<|Ar<|Ar<|?_
     obtain rfl:=Aa hL1
     dsimp only at hF
     obtain rfl:=Aa hF
     exact Ay z z<|⟨_,z,Bk hC2 _⟩
    replace hL1:=AA hL1 hc3
    exact A6<|AJ<|Aj<|AX<|Af z z<|Be z z z<|Ae z z<|Ab<|An (l':=[(0,u1),(1,(I x5)),(5,(I (w64 (x2+1))))]) ⟨z,z,z,Ah⟩<|⟨k1,Az _,x5,w64 (x2+1),z,((Ap hB1).then hB2).below,hC2,hL1⟩
   replace hL1:=AA hL1 hc2
   refine Bm (A2 (A2 (AT ?_)))
   obtain rfl:=Aa hL1
   exact An (l':=[(1,(I x1))]) ⟨z,Ah⟩<|⟨x1,z,z,(Ap hB1).below,hC1⟩
 rintro l2 _ w3 hs2 ⟨x3,rfl,rfl,hB3,hC3⟩
 try dsimp only at hF
 refine AO hs2 ?_
 clear hs2
 refine Ac<|Af z z<|Ae z z<|Ab<|AC<|?_
 obtain rfl:=Aa hF
 exact Ay z z<|⟨_,z,Bk hC3 _⟩
theorem c_Q_szTold {w0:World} (a1:((Int × (List Int)) × (List (Int × (List Int))))) (u1:Value) (g1:RO [] w0 u1 a1.1.2) (u2:Value) (g2:RO [] w0 u2 a1.2) (a2:Int) (rr:Int) (hF:Q.szTold a1 a2=some rr) :
 Calls Tryz.prog 75 [(.agg #[(I a1.1.1),u1,u2]),(I a2)].toArray w0 fun e w'=>∃v,e=.returned v∧Res w0 rr v w':=by
 refine Aw Tryz.func75 z z ?_
 have hC0:=A1 w0
 unfold Q.szTold at hF
 refine Ac<|Bb (cs:=[(I a1.1.1),u1,u2]) hC0 z z z fun b1 w1 hC1 hB1 hN1=>Ae z z<|Ab<|Ac<|fd C2 CU z z z z<|A4 [(I a1.1.1),u1] hC1 0 z z z Tryz.isAgg106 CU z z<|Af z z<|be hF fun x1 hr1 hF=>ci Tryz.call130 z z (c_Q_szAccess (a1.1.1,a1.1.2) u1 (g1.now hC1.keep) a2 x1 hr1) fun w2 hB2=>have hC2:=hC1.grow hB2;Ae z z<|Ab<|A0<|Ac<|Af z z<|AW z z z<|Ab<|A7 z (fun hc1=>?_) (fun hc1=>?_)
 ·replace hF:=A9 hF hc1
  refine Ac<|Ae z z<|Ab<|AC<|Ar<|?_
  obtain rfl:=Aa hF
  exact Ay z z<|⟨_,z,Bk hC2 _⟩
 replace hF:=AA hF hc1
 refine A6<|Aj<|Ac<|fd C2 Tryz.sizeOf107 z z z z<|Al hC2 0 z z Tryz.isAgg107 z z<|Af z z<|be hF fun x2 hr2 hF=>ci Tryz.call131 z z (c_Q_szFactS a1.2 u2 (g2.now hC2.keep) x1 x2 hr2) fun w3 hB3=>have hC3:=hC2.grow hB3;Ae z z<|Ab<|A0<|Ac<|Af z z<|AW z z z<|Ab<|A7 z (fun hc2=>?_) (fun hc2=>?_)
 ·replace hF:=A9 hF hc2
  refine Ac<|Ae z z<|Ab<|AC<|Ar<|?_
  obtain rfl:=Aa hF
  exact Ay z z<|⟨_,z,Bk hC3 _⟩
 replace hF:=AA hF hc2
 refine A6<|Aj<|Ac<|Af z z<|Ae z z<|Ab<|AC<|?_
 obtain rfl:=Aa hF
 exact Ay z z<|⟨_,z,Bk hC3 _⟩
theorem c_Q_szToldS {w0:World} (a1:(List ((Int × (List Int)) × (List (Int × (List Int)))))) (u1:Value) (g1:RO [] w0 u1 a1) (a2:Int) (rr:Int) (hF:Q.szToldS a1 a2=some rr) :
 Calls Tryz.prog 29 [u1,(I a2)].toArray w0 fun e w'=>∃v,e=.returned v∧Res w0 rr v w':=by
 refine Aw Tryz.func29 z z ?_
 have hC0:=A1 w0
 unfold Q.szToldS at hF
 refine Ac<|Ae z z<|Ab<|Ac<|Af z z<|Af z z<|AL Cp g1 z z<|Cv z z z<|Ae z z<|Ab<|A0<|Ac<|Af z z<|AW z z z<|Ab<|A7 z (fun hc1=>?_) (fun hc1=>?_)
 ·replace hF:=A9 hF hc1
  refine Ac<|Ae z z<|Ab<|AC<|Ar<|?_
  obtain rfl:=Aa hF
  exact Ay z z<|⟨_,z,Bk hC0 _⟩
 replace hF:=AA hF hc1
 refine A6<|Aj<|A0<|Ac<|Ae z z<|Ab<|be hF fun r1 hr1 hF=>Bf (fun l w=>∃x3:Int,.inl x3=r1∧l=[(1,(I x3))]∧Below w0.heap.size w0 w∧Ctx [] w0 w []) ?_ ?_
 ·refine AB<|wS (l':=[(0,u1),(1,(I (w64 (a2 - (List.length a1:Int))))),(5,(I 0))]) ⟨z,z,z,Ah⟩<|Bo (fun k l w=>∃x1:Int,∃x2:Int,l=[(0,u1),(1,(I x1)),(5,(I x2))]∧Below w0.heap.size w0 w∧Ctx [] w0 w []∧Q.szToldS_l1 a1 k x1 x2=some r1) FUEL ⟨w64 (a2 - (List.length a1:Int)),0,z,(Am _ _),hC0,hr1⟩<|?_
  clear hr1
  rintro k1 _ w1 ⟨x1,x2,rfl,hB1,hC1,hL1⟩
  cases k1 with
  | zero=>rw [Q.szToldS_l1] at hL1; cases hL1
  | succ k1 =>
   rw [Q.szToldS_l1] at hL1
   refine A0<|Ac<|Af z z<|Af z z<|AL Cp g1 z z<|AW z z z<|Ab<|A7 z (fun hc2=>?_) (fun hc2=>?_)
   ·replace hL1:=A9 hL1 hc2
    refine A6<|Aj<|A0<|AB<|Ac<|Af z z<|Af z z<|be hL1 fun x4 hx1 hL1=>AE Cp ty109 g1 hx1 z z z fun b1 o1 h1=>AH ty109 h1 hC1.keep z z fun v1 h2=>?_
    obtain ⟨v2,v3,rfl,h3,h4⟩:=ro_st109 h2
    refine Af z z<|be hL1 fun x5 hr2 hL1=>ci Tryz.call75 z z (c_Q_szTold x4 v2 (h3.now hC1.keep) v3 (h4.now hC1.keep) x1 x5 hr2) fun w2 hB2=>have hC2:=hC1.grow hB2;Ae z z<|Ab<|Ac<|Af z z<|AW z z z<|Ab<|A7 z (fun hc3=>?_) (fun hc3=>?_)
    ·replace hL1:=A9 hL1 hc3
     refine Ac<|Ae z z<|Ab<|AC<|AU<|Ar<|Ar<|AU<|Ar<|Ar<|?_
     obtain rfl:=Aa hL1
     dsimp only at hF
     obtain rfl:=Aa hF
     exact Ay z z<|⟨_,z,Bk hC2 _⟩
    replace hL1:=AA hL1 hc3
    exact A6<|AJ<|Aj<|AX<|Af z z<|Be z z z<|Ae z z<|Ab<|An (l':=[(0,u1),(1,(I x5)),(5,(I (w64 (x2+1))))]) ⟨z,z,z,Ah⟩<|⟨k1,Az _,x5,w64 (x2+1),z,((Ap hB1).then hB2).below,hC2,hL1⟩
   replace hL1:=AA hL1 hc2
   refine Bm (A2 (A2 (AT ?_)))
   obtain rfl:=Aa hL1
   exact An (l':=[(1,(I x1))]) ⟨z,Ah⟩<|⟨x1,z,z,(Ap hB1).below,hC1⟩
 rintro l2 _ w3 hs2 ⟨x3,rfl,rfl,hB3,hC3⟩
 try dsimp only at hF
 refine AO hs2 ?_
 clear hs2
 refine Ac<|Af z z<|Ae z z<|Ab<|AC<|?_
 obtain rfl:=Aa hF
 exact Ay z z<|⟨_,z,Bk hC3 _⟩
theorem c_Q_toIntS {w0:World} (a1:(List Int)) (u1:Value) (g1:RO [] w0 u1 a1) (rr:(List Int)) (hF:Q.toIntS a1=some rr) :
 Calls Tryz.prog 30 [u1].toArray w0 fun e w'=>∃v,e=.returned v∧Res w0 rr v w':=by
 refine Aw Tryz.func30 z z ?_
 have hC0:=A1 w0
 unfold Q.toIntS at hF
 refine Ac<|Ae z z<|Ab<|Ac<|Af z z<|AL Ag g1 z z<|be hF fun x1 hx1 hF=>CM hC0 Ag ty3 z zc3 zr3 hx1 z z z fun b1 w1 hC1 hB1=>Ae z z<|Ab<|A0<|Ac<|Ae z z<|Ab<|be hF fun r1 hr1 hF=>Bf (fun l w=>∃x4:(List Int),x4=r1∧l=[(3,(.slice (some ⟨b1,0,none⟩) (Int.toNat (List.length a1:Int)) (Int.toNat (List.length a1:Int))))]∧Ctx [] w0 w [Ad (.slice (some ⟨b1,0,none⟩) (Int.toNat (List.length a1:Int)) (Int.toNat (List.length a1:Int))) (x4:(List Int))]) ?_ ?_
 ·refine AB<|wS (l':=[(0,u1),(3,(.slice (some ⟨b1,0,none⟩) (Int.toNat (List.length a1:Int)) (Int.toNat (List.length a1:Int)))),(4,(I 0))]) ⟨z,z,z,Ah⟩<|Bo (fun k l w=>∃x2:(List Int),∃x3:Int,l=[(0,u1),(3,(.slice (some ⟨b1,0,none⟩) (Int.toNat (List.length a1:Int)) (Int.toNat (List.length a1:Int)))),(4,(I x3))]∧Ctx [] w0 w [Ad (.slice (some ⟨b1,0,none⟩) (Int.toNat (List.length a1:Int)) (Int.toNat (List.length a1:Int))) (x2:(List Int))]∧Q.toIntS_l1 a1 k x2 x3=some r1) FUEL ⟨x1,0,z,hC1,hr1⟩<|?_
  clear hr1
  rintro k1 _ w2 ⟨x2,x3,rfl,hC2,hL1⟩
  cases k1 with
  | zero=>rw [Q.toIntS_l1] at hL1; cases hL1
  | succ k1 =>
   rw [Q.toIntS_l1] at hL1
   refine A0<|Ac<|Af z z<|Af z z<|AL Ag g1 z z<|AW z z z<|Ab<|A7 z (fun hc1=>?_) (fun hc1=>?_)
   ·replace hL1:=A9 hL1 hc1
    refine A6<|Aj<|A0<|AB<|AX<|Af z z<|Af z z<|Af z z<|Af z z<|be hL1 fun x5 hx2 hL1=>AE Ag ty3 g1 hx2 z z z fun b2 o1 h1=>AH ty3 h1 hC2.keep z z fun v1 h2=>?_
    obtain rfl:=By h2
    refine be hL1 fun x6 hx3 hL1=>BD hC2 0 z Ag ty3 hx3 z z z fun b3 hE1=>?_
    have hC4:=hC2.triv (B2 (x5))
    refine Cz hC4 0 z ty3 hE1 hx3 z z z (fun w3 hC3=>?_)
    try dsimp only [List.set] at hC3
    exact Ab<|AJ<|Aj<|AX<|Af z z<|Be z z z<|Ae z z<|Ab<|An (l':=[(0,u1),(3,(.slice (some ⟨b1,0,none⟩) (Int.toNat (List.length a1:Int)) (Int.toNat (List.length a1:Int)))),(4,(I (w64 (x3+1))))]) ⟨z,z,z,Ah⟩<|⟨k1,Az _,(List.set x2 (Int.toNat x3) x5),w64 (x3+1),z,hC3,hL1⟩
   replace hL1:=AA hL1 hc1
   refine Bm (A2 (A2 (AT ?_)))
   obtain rfl:=Aa hL1
   exact An (l':=[(3,(.slice (some ⟨b1,0,none⟩) (Int.toNat (List.length a1:Int)) (Int.toNat (List.length a1:Int))))]) ⟨z,Ah⟩<|⟨x2,z,z,hC2⟩
 rintro l2 _ w4 hs2 ⟨x4,rfl,rfl,hC5⟩
 try dsimp only at hF
 refine AO hs2 ?_
 clear hs2
 refine Ac<|Af z z<|Ae z z<|Ab<|AC<|?_
 obtain rfl:=Aa hF
 exact Ay z z<|⟨_,z,B7 hC5 0 z⟩
theorem c_Q_toMethod {w0:World} (a1:(Int × (List Int) × Int × Int × Int)) (u1:Value) (g1:RO [] w0 u1 a1.2.1) (rr:(Int × (List Int) × Int × Int × Int)) (hF:Q.toMethod a1=some rr) :
 Calls Tryz.prog 76 [(.agg #[(I a1.1),u1,(I a1.2.2.1),(I a1.2.2.2.1),(I a1.2.2.2.2)])].toArray w0 fun e w'=>∃v,e=.returned v∧Res w0 rr v w':=by
 refine Aw Tryz.func76 z z ?_
 have hC0:=A1 w0
 unfold Q.toMethod at hF
 refine Ac<|Bb (cs:=[(I a1.1),u1,(I a1.2.2.1),(I a1.2.2.2.1),(I a1.2.2.2.2)]) hC0 z z z fun b1 w1 hC1 hB1 hN1=>B0 hC1 zero110 z z fun b2 w2 hC2 hB2 hN2=>Ab<|Ac<|B0 hC2 zero110 z z fun b3 w3 hC3 hB3 hN3=>Ab<|Ac<|fd Ce A5 z z z z<|Al hC3 2 z z AV z z<|fd AK A5 z z z z<|BE (cs':=[(I a1.1),(.slice none 0 0),(I 0),(I 0),(I 0)]) hC3 0 z z z z A5 z z fun w4 hC4 hKp1=>?_
 try dsimp only [List.set] at hC4
 have hk1:=AI (((Ap hB1).then hB2).then hB3) (AM ((Ap hB1).then hB2).size hN3) hKp1
 have hk2:=AI ((Ap hB2).then hB3) (AM (Ap hB2).size hN3) hKp1
 have hk3:=AI (Ap hB3) hN3 hKp1
 refine Ab<|Ac<|fd Ce Au z z z z<|Al hC4 2 z z At z z<|be hF fun x1 hr1 hF=>Bc Cr z z (c_Q_toIntS a1.2.1 u1 (g1.now hC4.keep) x1 hr1)<|?_
 rintro v1 w5 ⟨hB4,F1,hv1,hn1,hb1⟩
 have hC5:=hC4.push hB4 (A:=Ad v1 x1) hv1 hn1 hb1
 refine fd AK Au z z z z<|BE (cs':=[(I a1.1),v1,(I 0),(I 0),(I 0)]) hC5 1 z z (B1 (hC5.ro 0 z)) z Au z z fun w6 hC6 hKp2=>?_
 try dsimp only [List.set] at hC6
 have hk4:=AI (hk1.then hB4) (AM ((Ap hB1).then hB2).size hN3) hKp2
 have hk5:=AI (hk2.then hB4) (AM (Ap hB2).size hN3) hKp2
 have hk6:=AI (hk3.then hB4) hN3 hKp2
 refine Ab<|Ac<|fd Ce A5 z z z z<|Al hC6 3 z z AV z z<|fd AK A5 z z z z<|BE (cs':=[(I a1.1),v1,(I a1.2.2.1),(I 0),(I 0)]) hC6 1 z z z z A5 z z fun w7 hC7 hKp3=>?_
 try dsimp only [List.set] at hC7
 have hk7:=AI hk4 (AM ((Ap hB1).then hB2).size hN3) hKp3
 have hk8:=AI hk5 (AM (Ap hB2).size hN3) hKp3
 have hk9:=AI hk6 hN3 hKp3
 refine Ab<|Ac<|fd Ce A5 z z z z<|Al hC7 3 z z AV z z<|fd AK A5 z z z z<|BE (cs':=[(I a1.1),v1,(I a1.2.2.1),(I a1.2.2.2.1),(I 0)]) hC7 1 z z z z A5 z z fun w9 hC8 hKp4=>?_
 try dsimp only [List.set] at hC8
 have hk10:=AI hk7 (AM ((Ap hB1).then hB2).size hN3) hKp4
 have hk11:=AI hk8 (AM (Ap hB2).size hN3) hKp4
 have hk12:=AI hk9 hN3 hKp4
 refine Ab<|Ac<|fd Ce A5 z z z z<|Al hC8 3 z z AV z z<|fd AK A5 z z z z<|BE (cs':=[(I a1.1),v1,(I a1.2.2.1),(I a1.2.2.2.1),(I a1.2.2.2.2)]) hC8 1 z z z z A5 z z fun w10 hC9 hKp5=>?_
 try dsimp only [List.set] at hC9
 have hk13:=AI hk10 (AM ((Ap hB1).then hB2).size hN3) hKp5
 have hk14:=AI hk11 (AM (Ap hB2).size hN3) hKp5
 have hk15:=AI hk12 hN3 hKp5
 refine Ab<|Ac<|A4 [(I a1.1),v1,(I a1.2.2.1),(I a1.2.2.2.1),(I a1.2.2.2.2)] hC9 1 z z z Cx BT z z<|AS (cs':=[(I a1.1),v1,(I a1.2.2.1),(I a1.2.2.2.1),(I a1.2.2.2.2)]) (new:=[(I a1.1),v1,(I a1.2.2.1),(I a1.2.2.2.1),(I a1.2.2.2.2)]) hC9 2 z z (fac z<|fac (B1 (hC9.ro 0 z))<|fac z<|fac z<|fac z<|fa0) z BT z z fun w11 hC10 hKp6=>?_
 try dsimp only [List.set] at hC10
 have hk16:=AI hk13 (AM (Ap hB1).size hN2) hKp6
 have hk17:=AI hk14 hN2 hKp6
 refine Ab (AC ?_)
 obtain rfl:=Aa hF
 refine Cl z (rv_cell_agg (cs':=[(I a1.1),v1,(I a1.2.2.1),(I a1.2.2.2.1),(I a1.2.2.2.2)]) hC10 (i:=2) z z z Cx BT z) ?_
 have hC11:=CP a1.1 v1 x1 a1.2.2.1 a1.2.2.2.1 a1.2.2.2.2 hC10
 exact ⟨_,z,B7 hC11 0 z⟩
theorem c_Q_toMethodS {w0:World} (a1:(List (Int × (List Int) × Int × Int × Int))) (u1:Value) (g1:RO [] w0 u1 a1) (rr:(List (Int × (List Int) × Int × Int × Int))) (hF:Q.toMethodS a1=some rr) :
 Calls Tryz.prog 31 [u1].toArray w0 fun e w'=>∃v,e=.returned v∧Res w0 rr v w':=by
 refine Aw Tryz.func31 z z ?_
 have hC0:=A1 w0
 unfold Q.toMethodS at hF
 refine Ac<|Ae z z<|Ab<|Ac<|Af z z<|AL Cn g1 z z<|be hF fun x1 hx1 hF=>CM hC0 Bi ty110 z zc110 zr110 hx1 z z z fun b1 w1 hC1 hB1=>Ae z z<|Ab<|A0<|Ac<|Ae z z<|Ab<|be hF fun r1 hr1 hF=>Bf (fun l w=>∃x4:(List (Int × (List Int) × Int × Int × Int)),x4=r1∧l=[(3,(.slice (some ⟨b1,0,none⟩) (Int.toNat (List.length a1:Int)) (Int.toNat (List.length a1:Int))))]∧Ctx [] w0 w [Ad (.slice (some ⟨b1,0,none⟩) (Int.toNat (List.length a1:Int)) (Int.toNat (List.length a1:Int))) (x4:(List (Int × (List Int) × Int × Int × Int)))]) ?_ ?_
 ·refine AB<|wS (l':=[(0,u1),(3,(.slice (some ⟨b1,0,none⟩) (Int.toNat (List.length a1:Int)) (Int.toNat (List.length a1:Int)))),(4,(I 0))]) ⟨z,z,z,Ah⟩<|Bo (fun k l w=>∃x2:(List (Int × (List Int) × Int × Int × Int)),∃x3:Int,l=[(0,u1),(3,(.slice (some ⟨b1,0,none⟩) (Int.toNat (List.length a1:Int)) (Int.toNat (List.length a1:Int)))),(4,(I x3))]∧Ctx [] w0 w [Ad (.slice (some ⟨b1,0,none⟩) (Int.toNat (List.length a1:Int)) (Int.toNat (List.length a1:Int))) (x2:(List (Int × (List Int) × Int × Int × Int)))]∧Q.toMethodS_l1 a1 k x2 x3=some r1) FUEL ⟨x1,0,z,hC1,hr1⟩<|?_
  clear hr1
  rintro k1 _ w2 ⟨x2,x3,rfl,hC2,hL1⟩
  cases k1 with
  | zero=>rw [Q.toMethodS_l1] at hL1; cases hL1
  | succ k1 =>
   rw [Q.toMethodS_l1] at hL1
   refine A0<|Ac<|Af z z<|Af z z<|AL Cn g1 z z<|AW z z z<|Ab<|A7 z (fun hc1=>?_) (fun hc1=>?_)
   ·replace hL1:=A9 hL1 hc1
    refine A6<|Aj<|A0<|AB<|AX<|Af z z<|Af z z<|Af z z<|Af z z<|be hL1 fun x5 hx2 hL1=>AE Cn ty103 g1 hx2 z z z fun b2 o1 h1=>AH ty103 h1 hC2.keep z z fun v1 h2=>?_
    obtain ⟨v2,rfl,h3⟩:=ro_st103 h2
    refine be hL1 fun x6 hr2 hL1=>Bc Tryz.call76 z z (c_Q_toMethod x5 v2 (h3.now hC2.keep) x6 hr2)<|?_
    rintro v3 w3 ⟨hB3,F1,hv1,hn1,hb1⟩
    have hC3:=hC2.push hB3 (A:=Ad v3 x6) hv1 hn1 hb1
    obtain ⟨v4,rfl,hC4⟩:=st110_own hC3
    refine be hL1 fun x7 hx3 hL1=>BD hC4 1 z Bi ty110 hx3 z z z fun b3 hE1=>?_
    have hC6:=CP x6.1 v4 x6.2.1 x6.2.2.1 x6.2.2.2.1 x6.2.2.2.2 hC4
    refine Cz hC6 0 z ty110 hE1 hx3 z z z (fun w4 hC5=>?_)
    try dsimp only [List.set] at hC5
    exact Ab<|AJ<|Aj<|AX<|Af z z<|Be z z z<|Ae z z<|Ab<|An (l':=[(0,u1),(3,(.slice (some ⟨b1,0,none⟩) (Int.toNat (List.length a1:Int)) (Int.toNat (List.length a1:Int)))),(4,(I (w64 (x3+1))))]) ⟨z,z,z,Ah⟩<|⟨k1,Az _,(List.set x2 (Int.toNat x3) (x6.1,x6.2.1,x6.2.2.1,x6.2.2.2.1,x6.2.2.2.2)),w64 (x3+1),z,hC5,hL1⟩
   replace hL1:=AA hL1 hc1
   refine Bm (A2 (A2 (AT ?_)))
   obtain rfl:=Aa hL1
   exact An (l':=[(3,(.slice (some ⟨b1,0,none⟩) (Int.toNat (List.length a1:Int)) (Int.toNat (List.length a1:Int))))]) ⟨z,Ah⟩<|⟨x2,z,z,hC2⟩
 rintro l2 _ w5 hs2 ⟨x4,rfl,rfl,hC8⟩
 try dsimp only at hF
 refine AO hs2 ?_
 clear hs2
 refine Ac<|Af z z<|Ae z z<|Ab<|AC<|?_
 obtain rfl:=Aa hF
 exact Ay z z<|⟨_,z,B7 hC8 0 z⟩
theorem c_Q_toAtom {w0:World} (a1:(Int × (List Int))) (u1:Value) (g1:RO [] w0 u1 a1.2) (rr:(Int × (List Int))) (hF:Q.toAtom a1=some rr) :
 Calls Tryz.prog 132 [(.agg #[(I a1.1),u1])].toArray w0 fun e w'=>∃v,e=.returned v∧Res w0 rr v w':=by
 refine Aw Tryz.func132 z z ?_
 have hC0:=A1 w0
 unfold Q.toAtom at hF
 refine Ac<|Bb (cs:=[(I a1.1),u1]) hC0 z z z fun b1 w1 hC1 hB1 hN1=>B0 hC1 zero93 z z fun b2 w2 hC2 hB2 hN2=>Ab<|Ac<|B0 hC2 zero93 z z fun b3 w3 hC3 hB3 hN3=>Ab<|Ac<|fd CR A5 z z z z<|Al hC3 2 z z AV z z<|fd AZ A5 z z z z<|BE (cs':=[(I a1.1),(.slice none 0 0)]) hC3 0 z z z z A5 z z fun w4 hC4 hKp1=>?_
 try dsimp only [List.set] at hC4
 have hk1:=AI (((Ap hB1).then hB2).then hB3) (AM ((Ap hB1).then hB2).size hN3) hKp1
 have hk2:=AI ((Ap hB2).then hB3) (AM (Ap hB2).size hN3) hKp1
 have hk3:=AI (Ap hB3) hN3 hKp1
 refine Ab<|Ac<|fd CR Au z z z z<|Al hC4 2 z z At z z<|be hF fun x1 hr1 hF=>Bc Cr z z (c_Q_toIntS a1.2 u1 (g1.now hC4.keep) x1 hr1)<|?_
 rintro v1 w5 ⟨hB4,F1,hv1,hn1,hb1⟩
 have hC5:=hC4.push hB4 (A:=Ad v1 x1) hv1 hn1 hb1
 refine fd AZ Au z z z z<|BE (cs':=[(I a1.1),v1]) hC5 1 z z (B1 (hC5.ro 0 z)) z Au z z fun w6 hC6 hKp2=>?_
 try dsimp only [List.set] at hC6
 have hk4:=AI (hk1.then hB4) (AM ((Ap hB1).then hB2).size hN3) hKp2
 have hk5:=AI (hk2.then hB4) (AM (Ap hB2).size hN3) hKp2
 have hk6:=AI (hk3.then hB4) hN3 hKp2
 refine Ab<|Ac<|A4 [(I a1.1),v1] hC6 1 z z z C6 Cd z z<|AS (cs':=[(I a1.1),v1]) (new:=[(I a1.1),v1]) hC6 2 z z (fac z<|fac (B1 (hC6.ro 0 z))<|fa0) z Cd z z fun w7 hC7 hKp3=>?_
 try dsimp only [List.set] at hC7
 have hk7:=AI hk4 (AM (Ap hB1).size hN2) hKp3
 have hk8:=AI hk5 hN2 hKp3
 refine Ab (AC ?_)
 obtain rfl:=Aa hF
 refine Cl z (rv_cell_agg (cs':=[(I a1.1),v1]) hC7 (i:=2) z z z C6 Cd z) ?_
 have hC8:=own_st93 a1.1 v1 x1 hC7
 exact ⟨_,z,B7 hC8 0 z⟩
theorem c_Q_toAtomS {w0:World} (a1:(List (Int × (List Int)))) (u1:Value) (g1:RO [] w0 u1 a1) (rr:(List (Int × (List Int)))) (hF:Q.toAtomS a1=some rr) :
 Calls Tryz.prog 77 [u1].toArray w0 fun e w'=>∃v,e=.returned v∧Res w0 rr v w':=by
 refine Aw Tryz.func77 z z ?_
 have hC0:=A1 w0
 unfold Q.toAtomS at hF
 refine Ac<|Ae z z<|Ab<|Ac<|Af z z<|AL Co g1 z z<|be hF fun x1 hx1 hF=>CM hC0 Bp ty93 z zc93 zr93 hx1 z z z fun b1 w1 hC1 hB1=>Ae z z<|Ab<|A0<|Ac<|Ae z z<|Ab<|be hF fun r1 hr1 hF=>Bf (fun l w=>∃x4:(List (Int × (List Int))),x4=r1∧l=[(3,(.slice (some ⟨b1,0,none⟩) (Int.toNat (List.length a1:Int)) (Int.toNat (List.length a1:Int))))]∧Ctx [] w0 w [Ad (.slice (some ⟨b1,0,none⟩) (Int.toNat (List.length a1:Int)) (Int.toNat (List.length a1:Int))) (x4:(List (Int × (List Int))))]) ?_ ?_
 ·refine AB<|wS (l':=[(0,u1),(3,(.slice (some ⟨b1,0,none⟩) (Int.toNat (List.length a1:Int)) (Int.toNat (List.length a1:Int)))),(4,(I 0))]) ⟨z,z,z,Ah⟩<|Bo (fun k l w=>∃x2:(List (Int × (List Int))),∃x3:Int,l=[(0,u1),(3,(.slice (some ⟨b1,0,none⟩) (Int.toNat (List.length a1:Int)) (Int.toNat (List.length a1:Int)))),(4,(I x3))]∧Ctx [] w0 w [Ad (.slice (some ⟨b1,0,none⟩) (Int.toNat (List.length a1:Int)) (Int.toNat (List.length a1:Int))) (x2:(List (Int × (List Int))))]∧Q.toAtomS_l1 a1 k x2 x3=some r1) FUEL ⟨x1,0,z,hC1,hr1⟩<|?_
  clear hr1
  rintro k1 _ w2 ⟨x2,x3,rfl,hC2,hL1⟩
  cases k1 with
  | zero=>rw [Q.toAtomS_l1] at hL1; cases hL1
  | succ k1 =>
   rw [Q.toAtomS_l1] at hL1
   refine A0<|Ac<|Af z z<|Af z z<|AL Co g1 z z<|AW z z z<|Ab<|A7 z (fun hc1=>?_) (fun hc1=>?_)
   ·replace hL1:=A9 hL1 hc1
    refine A6<|Aj<|A0<|AB<|AX<|Af z z<|Af z z<|Af z z<|Af z z<|be hL1 fun x5 hx2 hL1=>AE Co ty152 g1 hx2 z z z fun b2 o1 h1=>AH ty152 h1 hC2.keep z z fun v1 h2=>?_
    obtain ⟨v2,rfl,h3⟩:=ro_st152 h2
    refine be hL1 fun x6 hr2 hL1=>Bc Tryz.call132 z z (c_Q_toAtom x5 v2 (h3.now hC2.keep) x6 hr2)<|?_
    rintro v3 w3 ⟨hB3,F1,hv1,hn1,hb1⟩
    have hC3:=hC2.push hB3 (A:=Ad v3 x6) hv1 hn1 hb1
    obtain ⟨v4,rfl,hC4⟩:=st93_own hC3
    refine be hL1 fun x7 hx3 hL1=>BD hC4 1 z Bp ty93 hx3 z z z fun b3 hE1=>?_
    have hC6:=own_st93 x6.1 v4 x6.2 hC4
    refine Cz hC6 0 z ty93 hE1 hx3 z z z (fun w4 hC5=>?_)
    try dsimp only [List.set] at hC5
    exact Ab<|AJ<|Aj<|AX<|Af z z<|Be z z z<|Ae z z<|Ab<|An (l':=[(0,u1),(3,(.slice (some ⟨b1,0,none⟩) (Int.toNat (List.length a1:Int)) (Int.toNat (List.length a1:Int)))),(4,(I (w64 (x3+1))))]) ⟨z,z,z,Ah⟩<|⟨k1,Az _,(List.set x2 (Int.toNat x3) (x6.1,x6.2)),w64 (x3+1),z,hC5,hL1⟩
   replace hL1:=AA hL1 hc1
   refine Bm (A2 (A2 (AT ?_)))
   obtain rfl:=Aa hL1
   exact An (l':=[(3,(.slice (some ⟨b1,0,none⟩) (Int.toNat (List.length a1:Int)) (Int.toNat (List.length a1:Int))))]) ⟨z,Ah⟩<|⟨x2,z,z,hC2⟩
 rintro l2 _ w5 hs2 ⟨x4,rfl,rfl,hC8⟩
 try dsimp only at hF
 refine AO hs2 ?_
 clear hs2
 refine Ac<|Af z z<|Ae z z<|Ab<|AC<|?_
 obtain rfl:=Aa hF
 exact Ay z z<|⟨_,z,B7 hC8 0 z⟩
theorem c_Q_toQuery {w0:World} (a1:((List Int) × (List (Int × (List Int))))) (u1:Value) (g1:RO [] w0 u1 a1.1) (u2:Value) (g2:RO [] w0 u2 a1.2) (rr:((List Int) × (List (Int × (List Int))))) (hF:Q.toQuery a1=some rr) :
 Calls Tryz.prog 32 [(.agg #[u1,u2])].toArray w0 fun e w'=>∃v,e=.returned v∧Res w0 rr v w':=by
 refine Aw Tryz.func32 z z ?_
 have hC0:=A1 w0
 unfold Q.toQuery at hF
 refine Ac<|Bb (cs:=[u1,u2]) hC0 z z z fun b1 w1 hC1 hB1 hN1=>B0 hC1 zero43 z z fun b2 w2 hC2 hB2 hN2=>Ab<|Ac<|B0 hC2 zero43 z z fun b3 w3 hC3 hB3 hN3=>Ab<|Ac<|fd C7 Au z z z z<|Al hC3 2 z z At z z<|be hF fun x1 hr1 hF=>Bc Cr z z (c_Q_toIntS a1.1 u1 (g1.now hC3.keep) x1 hr1)<|?_
 rintro v1 w4 ⟨hB4,F1,hv1,hn1,hb1⟩
 have hC4:=hC3.push hB4 (A:=Ad v1 x1) hv1 hn1 hb1
 refine fd Bn Au z z z z<|BE (cs':=[v1,(.slice none 0 0)]) hC4 1 z z (B1 (hC4.ro 0 z)) z Au z z fun w5 hC5 hKp1=>?_
 try dsimp only [List.set] at hC5
 have hk1:=AI ((((Ap hB1).then hB2).then hB3).then hB4) (AM ((Ap hB1).then hB2).size hN3) hKp1
 have hk2:=AI (((Ap hB2).then hB3).then hB4) (AM (Ap hB2).size hN3) hKp1
 have hk3:=AI ((Ap hB3).then hB4) hN3 hKp1
 refine Ab<|Ac<|fd C7 Tryz.sizeOf48 z z z z<|Al hC5 3 z z Tryz.isAgg48 z z<|be hF fun x2 hr2 hF=>Bc Tryz.call77 z z (c_Q_toAtomS a1.2 u2 (g2.now hC5.keep) x2 hr2)<|?_
 rintro v2 w6 ⟨hB5,F2,hv2,hn2,hb2⟩
 have hC6:=hC5.push hB5 (A:=Ad v2 x2) hv2 hn2 hb2
 refine fd Bn BB z z z z<|BE (cs':=[v1,v2]) hC6 2 z z (B1 (hC6.ro 0 z)) z BB z z fun w7 hC7 hKp2=>?_
 try dsimp only [List.set] at hC7
 have hk4:=AI (hk1.then hB5) (AM ((Ap hB1).then hB2).size hN3) hKp2
 have hk5:=AI (hk2.then hB5) (AM (Ap hB2).size hN3) hKp2
 have hk6:=AI (hk3.then hB5) hN3 hKp2
 refine Ab<|Ac<|A4 [v1,v2] hC7 2 z z z BL BC z z<|AS (cs':=[v1,v2]) (new:=[v1,v2]) hC7 3 z z (fac (B1 (hC7.ro 1 z))<|fac (B1 (hC7.ro 0 z))<|fa0) z BC z z fun w9 hC8 hKp3=>?_
 try dsimp only [List.set] at hC8
 have hk7:=AI hk4 (AM (Ap hB1).size hN2) hKp3
 have hk8:=AI hk5 hN2 hKp3
 refine Ab (AC ?_)
 obtain rfl:=Aa hF
 refine Cl z (rv_cell_agg (cs':=[v1,v2]) hC8 (i:=3) z z z BL BC z)<|have hC11:=hC8.f1;?_
 have hC9:=own_st43 v1 x1 v2 x2 hC11
 exact ⟨_,z,B7 hC9 0 z⟩
theorem c_Q_toAccess {w0:World} (a1:(Int × (List Int))) (u1:Value) (g1:RO [] w0 u1 a1.2) (rr:(Int × (List Int))) (hF:Q.toAccess a1=some rr) :
 Calls Tryz.prog 133 [(.agg #[(I a1.1),u1])].toArray w0 fun e w'=>∃v,e=.returned v∧Res w0 rr v w':=by
 refine Aw Tryz.func133 z z ?_
 have hC0:=A1 w0
 unfold Q.toAccess at hF
 refine Ac<|Bb (cs:=[(I a1.1),u1]) hC0 z z z fun b1 w1 hC1 hB1 hN1=>B0 hC1 zero82 z z fun b2 w2 hC2 hB2 hN2=>Ab<|Ac<|B0 hC2 zero82 z z fun b3 w3 hC3 hB3 hN3=>Ab<|Ac<|fd CS A5 z z z z<|Al hC3 2 z z AV z z<|fd Bd A5 z z z z<|BE (cs':=[(I a1.1),(.slice none 0 0)]) hC3 0 z z z z A5 z z fun w4 hC4 hKp1=>?_
 try dsimp only [List.set] at hC4
 have hk1:=AI (((Ap hB1).then hB2).then hB3) (AM ((Ap hB1).then hB2).size hN3) hKp1
 have hk2:=AI ((Ap hB2).then hB3) (AM (Ap hB2).size hN3) hKp1
 have hk3:=AI (Ap hB3) hN3 hKp1
 refine Ab<|Ac<|fd CS Au z z z z<|Al hC4 2 z z At z z<|be hF fun x1 hr1 hF=>Bc Cr z z (c_Q_toIntS a1.2 u1 (g1.now hC4.keep) x1 hr1)<|?_
 rintro v1 w5 ⟨hB4,F1,hv1,hn1,hb1⟩
 have hC5:=hC4.push hB4 (A:=Ad v1 x1) hv1 hn1 hb1
 refine fd Bd Au z z z z<|BE (cs':=[(I a1.1),v1]) hC5 1 z z (B1 (hC5.ro 0 z)) z Au z z fun w6 hC6 hKp2=>?_
 try dsimp only [List.set] at hC6
 have hk4:=AI (hk1.then hB4) (AM ((Ap hB1).then hB2).size hN3) hKp2
 have hk5:=AI (hk2.then hB4) (AM (Ap hB2).size hN3) hKp2
 have hk6:=AI (hk3.then hB4) hN3 hKp2
 refine Ab<|Ac<|A4 [(I a1.1),v1] hC6 1 z z z BZ Bu z z<|AS (cs':=[(I a1.1),v1]) (new:=[(I a1.1),v1]) hC6 2 z z (fac z<|fac (B1 (hC6.ro 0 z))<|fa0) z Bu z z fun w7 hC7 hKp3=>?_
 try dsimp only [List.set] at hC7
 have hk7:=AI hk4 (AM (Ap hB1).size hN2) hKp3
 have hk8:=AI hk5 hN2 hKp3
 refine Ab (AC ?_)
 obtain rfl:=Aa hF
 refine Cl z (rv_cell_agg (cs':=[(I a1.1),v1]) hC7 (i:=2) z z z BZ Bu z) ?_
 have hC8:=own_st82 a1.1 v1 x1 hC7
 exact ⟨_,z,B7 hC8 0 z⟩
theorem c_Q_toFact {w0:World} (a1:(Int × (List Int))) (u1:Value) (g1:RO [] w0 u1 a1.2) (rr:(Int × (List Int))) (hF:Q.toFact a1=some rr) :
 Calls Tryz.prog 182 [(.agg #[(I a1.1),u1])].toArray w0 fun e w'=>∃v,e=.returned v∧Res w0 rr v w':=by
 refine Aw Tryz.func182 z z ?_
 have hC0:=A1 w0
 unfold Q.toFact at hF
 refine Ac<|Bb (cs:=[(I a1.1),u1]) hC0 z z z fun b1 w1 hC1 hB1 hN1=>B0 hC1 zero77 z z fun b2 w2 hC2 hB2 hN2=>Ab<|Ac<|B0 hC2 zero77 z z fun b3 w3 hC3 hB3 hN3=>Ab<|Ac<|fd CT A5 z z z z<|Al hC3 2 z z AV z z<|fd AF A5 z z z z<|BE (cs':=[(I a1.1),(.slice none 0 0)]) hC3 0 z z z z A5 z z fun w4 hC4 hKp1=>?_
 try dsimp only [List.set] at hC4
 have hk1:=AI (((Ap hB1).then hB2).then hB3) (AM ((Ap hB1).then hB2).size hN3) hKp1
 have hk2:=AI ((Ap hB2).then hB3) (AM (Ap hB2).size hN3) hKp1
 have hk3:=AI (Ap hB3) hN3 hKp1
 refine Ab<|Ac<|fd CT Au z z z z<|Al hC4 2 z z At z z<|be hF fun x1 hr1 hF=>Bc Cr z z (c_Q_toIntS a1.2 u1 (g1.now hC4.keep) x1 hr1)<|?_
 rintro v1 w5 ⟨hB4,F1,hv1,hn1,hb1⟩
 have hC5:=hC4.push hB4 (A:=Ad v1 x1) hv1 hn1 hb1
 refine fd AF Au z z z z<|BE (cs':=[(I a1.1),v1]) hC5 1 z z (B1 (hC5.ro 0 z)) z Au z z fun w6 hC6 hKp2=>?_
 try dsimp only [List.set] at hC6
 have hk4:=AI (hk1.then hB4) (AM ((Ap hB1).then hB2).size hN3) hKp2
 have hk5:=AI (hk2.then hB4) (AM (Ap hB2).size hN3) hKp2
 have hk6:=AI (hk3.then hB4) hN3 hKp2
 refine Ab<|Ac<|A4 [(I a1.1),v1] hC6 1 z z z B4 Br z z<|AS (cs':=[(I a1.1),v1]) (new:=[(I a1.1),v1]) hC6 2 z z (fac z<|fac (B1 (hC6.ro 0 z))<|fa0) z Br z z fun w7 hC7 hKp3=>?_
 try dsimp only [List.set] at hC7
 have hk7:=AI hk4 (AM (Ap hB1).size hN2) hKp3
 have hk8:=AI hk5 hN2 hKp3
 refine Ab (AC ?_)
 obtain rfl:=Aa hF
 refine Cl z (rv_cell_agg (cs':=[(I a1.1),v1]) hC7 (i:=2) z z z B4 Br z) ?_
 have hC8:=Cm a1.1 v1 x1 hC7
 exact ⟨_,z,B7 hC8 0 z⟩
theorem c_Q_toFactS {w0:World} (a1:(List (Int × (List Int)))) (u1:Value) (g1:RO [] w0 u1 a1) (rr:(List (Int × (List Int)))) (hF:Q.toFactS a1=some rr) :
 Calls Tryz.prog 134 [u1].toArray w0 fun e w'=>∃v,e=.returned v∧Res w0 rr v w':=by
 refine Aw Tryz.func134 z z ?_
 have hC0:=A1 w0
 unfold Q.toFactS at hF
 refine Ac<|Ae z z<|Ab<|Ac<|Af z z<|AL Cf g1 z z<|be hF fun x1 hx1 hF=>CM hC0 Ao ty77 z zc77 zr77 hx1 z z z fun b1 w1 hC1 hB1=>Ae z z<|Ab<|A0<|Ac<|Ae z z<|Ab<|be hF fun r1 hr1 hF=>Bf (fun l w=>∃x4:(List (Int × (List Int))),x4=r1∧l=[(3,(.slice (some ⟨b1,0,none⟩) (Int.toNat (List.length a1:Int)) (Int.toNat (List.length a1:Int))))]∧Ctx [] w0 w [Ad (.slice (some ⟨b1,0,none⟩) (Int.toNat (List.length a1:Int)) (Int.toNat (List.length a1:Int))) (x4:(List (Int × (List Int))))]) ?_ ?_
 ·refine AB<|wS (l':=[(0,u1),(3,(.slice (some ⟨b1,0,none⟩) (Int.toNat (List.length a1:Int)) (Int.toNat (List.length a1:Int)))),(4,(I 0))]) ⟨z,z,z,Ah⟩<|Bo (fun k l w=>∃x2:(List (Int × (List Int))),∃x3:Int,l=[(0,u1),(3,(.slice (some ⟨b1,0,none⟩) (Int.toNat (List.length a1:Int)) (Int.toNat (List.length a1:Int)))),(4,(I x3))]∧Ctx [] w0 w [Ad (.slice (some ⟨b1,0,none⟩) (Int.toNat (List.length a1:Int)) (Int.toNat (List.length a1:Int))) (x2:(List (Int × (List Int))))]∧Q.toFactS_l1 a1 k x2 x3=some r1) FUEL ⟨x1,0,z,hC1,hr1⟩<|?_
  clear hr1
  rintro k1 _ w2 ⟨x2,x3,rfl,hC2,hL1⟩
  cases k1 with
  | zero=>rw [Q.toFactS_l1] at hL1; cases hL1
  | succ k1 =>
   rw [Q.toFactS_l1] at hL1
   refine A0<|Ac<|Af z z<|Af z z<|AL Cf g1 z z<|AW z z z<|Ab<|A7 z (fun hc1=>?_) (fun hc1=>?_)
   ·replace hL1:=A9 hL1 hc1
    refine A6<|Aj<|A0<|AB<|AX<|Af z z<|Af z z<|Af z z<|Af z z<|be hL1 fun x5 hx2 hL1=>AE Cf ty188 g1 hx2 z z z fun b2 o1 h1=>AH ty188 h1 hC2.keep z z fun v1 h2=>?_
    obtain ⟨v2,rfl,h3⟩:=ro_st188 h2
    refine be hL1 fun x6 hr2 hL1=>Bc Tryz.call182 z z (c_Q_toFact x5 v2 (h3.now hC2.keep) x6 hr2)<|?_
    rintro v3 w3 ⟨hB3,F1,hv1,hn1,hb1⟩
    have hC3:=hC2.push hB3 (A:=Ad v3 x6) hv1 hn1 hb1
    obtain ⟨v4,rfl,hC4⟩:=st77_own hC3
    refine be hL1 fun x7 hx3 hL1=>BD hC4 1 z Ao ty77 hx3 z z z fun b3 hE1=>?_
    have hC6:=Cm x6.1 v4 x6.2 hC4
    refine Cz hC6 0 z ty77 hE1 hx3 z z z (fun w4 hC5=>?_)
    try dsimp only [List.set] at hC5
    exact Ab<|AJ<|Aj<|AX<|Af z z<|Be z z z<|Ae z z<|Ab<|An (l':=[(0,u1),(3,(.slice (some ⟨b1,0,none⟩) (Int.toNat (List.length a1:Int)) (Int.toNat (List.length a1:Int)))),(4,(I (w64 (x3+1))))]) ⟨z,z,z,Ah⟩<|⟨k1,Az _,(List.set x2 (Int.toNat x3) (x6.1,x6.2)),w64 (x3+1),z,hC5,hL1⟩
   replace hL1:=AA hL1 hc1
   refine Bm (A2 (A2 (AT ?_)))
   obtain rfl:=Aa hL1
   exact An (l':=[(3,(.slice (some ⟨b1,0,none⟩) (Int.toNat (List.length a1:Int)) (Int.toNat (List.length a1:Int))))]) ⟨z,Ah⟩<|⟨x2,z,z,hC2⟩
 rintro l2 _ w5 hs2 ⟨x4,rfl,rfl,hC8⟩
 try dsimp only at hF
 refine AO hs2 ?_
 clear hs2
 refine Ac<|Af z z<|Ae z z<|Ab<|AC<|?_
 obtain rfl:=Aa hF
 exact Ay z z<|⟨_,z,B7 hC8 0 z⟩
theorem c_Q_toTold {w0:World} (a1:((Int × (List Int)) × (List (Int × (List Int))))) (u1:Value) (g1:RO [] w0 u1 a1.1.2) (u2:Value) (g2:RO [] w0 u2 a1.2) (rr:((Int × (List Int)) × (List (Int × (List Int))))) (hF:Q.toTold a1=some rr) :
 Calls Tryz.prog 78 [(.agg #[(I a1.1.1),u1,u2])].toArray w0 fun e w'=>∃v,e=.returned v∧Res w0 rr v w':=by
 refine Aw Tryz.func78 z z ?_
 have hC0:=A1 w0
 unfold Q.toTold at hF
 refine Ac<|Bb (cs:=[(I a1.1.1),u1,u2]) hC0 z z z fun b1 w1 hC1 hB1 hN1=>B0 hC1 zero84 z z fun b2 w2 hC2 hB2 hN2=>Ab<|Ac<|B0 hC2 zero84 z z fun b3 w3 hC3 hB3 hN3=>Ab<|Ac<|fd C2 CU z z z z<|A4 [(I a1.1.1),u1] hC3 2 z z z Tryz.isAgg106 CU z z<|be hF fun x1 hr1 hF=>Bc Tryz.call133 z z (c_Q_toAccess (a1.1.1,a1.1.2) u1 (g1.now hC3.keep) x1 hr1)<|?_
 rintro v1 w4 ⟨hB4,F1,hv1,hn1,hb1⟩
 have hC4:=hC3.push hB4 (A:=Ad v1 x1) hv1 hn1 hb1
 obtain ⟨v2,rfl,hC5⟩:=st82_own hC4
 refine fd AQ Bu z z z z<|AS (cs':=[(I x1.1),v2,(.slice none 0 0)]) (new:=[(I x1.1),v2]) hC5 1 z z (fac z<|fac (B1 (hC5.ro 0 z))<|fa0) z Bu z z fun w5 hC6 hKp1=>?_
 try dsimp only [List.set] at hC6
 have hk1:=AI ((((Ap hB1).then hB2).then hB3).then hB4) (AM ((Ap hB1).then hB2).size hN3) hKp1
 have hk2:=AI (((Ap hB2).then hB3).then hB4) (AM (Ap hB2).size hN3) hKp1
 have hk3:=AI ((Ap hB3).then hB4) hN3 hKp1
 refine Ab<|Ac<|fd C2 Tryz.sizeOf107 z z z z<|Al hC6 3 z z Tryz.isAgg107 z z<|be hF fun x2 hr2 hF=>Bc Tryz.call134 z z (c_Q_toFactS a1.2 u2 (g2.now hC6.keep) x2 hr2)<|?_
 rintro v3 w6 ⟨hB5,F2,hv2,hn2,hb2⟩
 have hC7:=hC6.push hB5 (A:=Ad v3 x2) hv2 hn2 hb2
 refine fd AQ Bx z z z z<|BE (cs':=[(I x1.1),v2,v3]) hC7 2 z z (B1 (hC7.ro 0 z)) z Bx z z fun w7 hC8 hKp2=>?_
 try dsimp only [List.set] at hC8
 have hk4:=AI (hk1.then hB5) (AM ((Ap hB1).then hB2).size hN3) hKp2
 have hk5:=AI (hk2.then hB5) (AM (Ap hB2).size hN3) hKp2
 have hk6:=AI (hk3.then hB5) hN3 hKp2
 refine Ab<|Ac<|A4 [(I x1.1),v2,v3] hC8 2 z z z BF B3 z z<|AS (cs':=[(I x1.1),v2,v3]) (new:=[(I x1.1),v2,v3]) hC8 3 z z (fac z<|fac (B1 (hC8.ro 1 z))<|fac (B1 (hC8.ro 0 z))<|fa0) z B3 z z fun w9 hC9 hKp3=>?_
 try dsimp only [List.set] at hC9
 have hk7:=AI hk4 (AM (Ap hB1).size hN2) hKp3
 have hk8:=AI hk5 hN2 hKp3
 refine Ab (AC ?_)
 obtain rfl:=Aa hF
 refine Cl z (rv_cell_agg (cs':=[(I x1.1),v2,v3]) hC9 (i:=3) z z z BF B3 z)<|have hC12:=hC9.f1;?_
 have hC10:=CC x1.1 v2 x1.2 v3 x2 hC12
 exact ⟨_,z,B7 hC10 0 z⟩
theorem c_Q_toToldS {w0:World} (a1:(List ((Int × (List Int)) × (List (Int × (List Int)))))) (u1:Value) (g1:RO [] w0 u1 a1) (rr:(List ((Int × (List Int)) × (List (Int × (List Int)))))) (hF:Q.toToldS a1=some rr) :
 Calls Tryz.prog 33 [u1].toArray w0 fun e w'=>∃v,e=.returned v∧Res w0 rr v w':=by
 refine Aw Tryz.func33 z z ?_
 have hC0:=A1 w0
 unfold Q.toToldS at hF
 refine Ac<|Ae z z<|Ab<|Ac<|Af z z<|AL Cp g1 z z<|be hF fun x1 hx1 hF=>CM hC0 AR ty84 z zc84 zr84 hx1 z z z fun b1 w1 hC1 hB1=>Ae z z<|Ab<|A0<|Ac<|Ae z z<|Ab<|be hF fun r1 hr1 hF=>Bf (fun l w=>∃x4:(List ((Int × (List Int)) × (List (Int × (List Int))))),x4=r1∧l=[(3,(.slice (some ⟨b1,0,none⟩) (Int.toNat (List.length a1:Int)) (Int.toNat (List.length a1:Int))))]∧Ctx [] w0 w [Ad (.slice (some ⟨b1,0,none⟩) (Int.toNat (List.length a1:Int)) (Int.toNat (List.length a1:Int))) (x4:(List ((Int × (List Int)) × (List (Int × (List Int))))))]) ?_ ?_
 ·refine AB<|wS (l':=[(0,u1),(3,(.slice (some ⟨b1,0,none⟩) (Int.toNat (List.length a1:Int)) (Int.toNat (List.length a1:Int)))),(4,(I 0))]) ⟨z,z,z,Ah⟩<|Bo (fun k l w=>∃x2:(List ((Int × (List Int)) × (List (Int × (List Int))))),∃x3:Int,l=[(0,u1),(3,(.slice (some ⟨b1,0,none⟩) (Int.toNat (List.length a1:Int)) (Int.toNat (List.length a1:Int)))),(4,(I x3))]∧Ctx [] w0 w [Ad (.slice (some ⟨b1,0,none⟩) (Int.toNat (List.length a1:Int)) (Int.toNat (List.length a1:Int))) (x2:(List ((Int × (List Int)) × (List (Int × (List Int))))))]∧Q.toToldS_l1 a1 k x2 x3=some r1) FUEL ⟨x1,0,z,hC1,hr1⟩<|?_
  clear hr1
  rintro k1 _ w2 ⟨x2,x3,rfl,hC2,hL1⟩
  cases k1 with
  | zero=>rw [Q.toToldS_l1] at hL1; cases hL1
  | succ k1 =>
   rw [Q.toToldS_l1] at hL1
   refine A0<|Ac<|Af z z<|Af z z<|AL Cp g1 z z<|AW z z z<|Ab<|A7 z (fun hc1=>?_) (fun hc1=>?_)
   ·replace hL1:=A9 hL1 hc1
    refine A6<|Aj<|A0<|AB<|AX<|Af z z<|Af z z<|Af z z<|Af z z<|be hL1 fun x5 hx2 hL1=>AE Cp ty109 g1 hx2 z z z fun b2 o1 h1=>AH ty109 h1 hC2.keep z z fun v1 h2=>?_
    obtain ⟨v2,v3,rfl,h3,h4⟩:=ro_st109 h2
    refine be hL1 fun x6 hr2 hL1=>Bc Tryz.call78 z z (c_Q_toTold x5 v2 (h3.now hC2.keep) v3 (h4.now hC2.keep) x6 hr2)<|?_
    rintro v4 w3 ⟨hB3,F1,hv1,hn1,hb1⟩
    have hC3:=hC2.push hB3 (A:=Ad v4 x6) hv1 hn1 hb1
    obtain ⟨v5,v6,rfl,hC4⟩:=st84_own hC3
    refine be hL1 fun x7 hx3 hL1=>BD hC4 2 z AR ty84 hx3 z z z fun b3 hE1=>have hC7:=hC4.f1;have hC8:=hC7.f1;?_
    have hC6:=CC x6.1.1 v5 x6.1.2 v6 x6.2 hC8
    refine Cz hC6 0 z ty84 hE1 hx3 z z z (fun w4 hC5=>?_)
    try dsimp only [List.set] at hC5
    exact Ab<|AJ<|Aj<|AX<|Af z z<|Be z z z<|Ae z z<|Ab<|An (l':=[(0,u1),(3,(.slice (some ⟨b1,0,none⟩) (Int.toNat (List.length a1:Int)) (Int.toNat (List.length a1:Int)))),(4,(I (w64 (x3+1))))]) ⟨z,z,z,Ah⟩<|⟨k1,Az _,(List.set x2 (Int.toNat x3) ((x6.1.1,x6.1.2),x6.2)),w64 (x3+1),z,hC5,hL1⟩
   replace hL1:=AA hL1 hc1
   refine Bm (A2 (A2 (AT ?_)))
   obtain rfl:=Aa hL1
   exact An (l':=[(3,(.slice (some ⟨b1,0,none⟩) (Int.toNat (List.length a1:Int)) (Int.toNat (List.length a1:Int))))]) ⟨z,Ah⟩<|⟨x2,z,z,hC2⟩
 rintro l2 _ w5 hs2 ⟨x4,rfl,rfl,hC9⟩
 try dsimp only at hF
 refine AO hs2 ?_
 clear hs2
 refine Ac<|Af z z<|Ae z z<|Ab<|AC<|?_
 obtain rfl:=Aa hF
 exact Ay z z<|⟨_,z,B7 hC9 0 z⟩
theorem c_Q_eqIntS {w0:World} (a1:(List Int)) (u1:Value) (g1:RO [] w0 u1 a1) (a2:(List Int)) (u2:Value) (g2:RO [] w0 u2 a2) (rr:Bool) (hF:Q.eqIntS a1 a2=some rr) :
 Calls Tryz.prog 35 [u1,u2].toArray w0 fun e w'=>∃v,e=.returned v∧Res w0 rr v w':=by
 refine Aw Tryz.func35 z z ?_
 have hC0:=A1 w0
 unfold Q.eqIntS at hF
 refine Ac<|Ae z z<|Ab<|A0<|Ac<|Af z z<|AL Ag g1 z z<|Af z z<|AL Ag g2 z z<|BI z z z<|Ab<|A7 z (fun hc1=>?_) (fun hc1=>?_)
 ·replace hF:=A9 hF hc1
  refine Ac<|Ae z z<|Ab<|AC<|Ar<|?_
  obtain rfl:=Aa hF
  exact Ay z z<|⟨_,z,AD hC0 _⟩
 replace hF:=AA hF hc1
 refine A6<|Aj<|A0<|Ac<|Ae z z<|Ab<|be hF fun r1 hr1 hF=>Bf (fun l w=>.inl ()=r1∧l=[]∧Below w0.heap.size w0 w∧Ctx [] w0 w []) ?_ ?_
 ·refine AB<|wS (l':=[(0,u1),(1,u2),(5,(I 0))]) ⟨z,z,z,Ah⟩<|Bo (fun k l w=>∃x1:Int,l=[(0,u1),(1,u2),(5,(I x1))]∧Below w0.heap.size w0 w∧Ctx [] w0 w []∧Q.eqIntS_l1 a1 a2 k x1=some r1) FUEL ⟨0,z,(Am _ _),hC0,hr1⟩<|?_
  clear hr1
  rintro k1 _ w1 ⟨x1,rfl,hB1,hC1,hL1⟩
  cases k1 with
  | zero=>rw [Q.eqIntS_l1] at hL1; cases hL1
  | succ k1 =>
   rw [Q.eqIntS_l1] at hL1
   refine A0<|Ac<|Af z z<|Af z z<|AL Ag g1 z z<|AW z z z<|Ab<|A7 z (fun hc2=>?_) (fun hc2=>?_)
   ·replace hL1:=A9 hL1 hc2
    refine A6<|Aj<|A0<|AB<|A0<|W_drawn 9 z hmix fun w2 hB2=>have hC2:=hC1.grow hB2;tm 0 z z z<|tm 1 z z z<|be hL1 fun x2 hx1 hL1=>tk 2 z z (B8 Ag ty3 g1 hx1 z z)<|AE Ag ty3 g1 hx1 z z z fun b1 o1 h1=>Ab<|tm 4 z z z<|tm 5 z z z<|be hL1 fun x3 hx2 hL1=>tk 6 z z (B8 Ag ty3 g2 hx2 z z)<|AE Ag ty3 g2 hx2 z z z fun b2 o2 h2=>Ab<|wAS (l':=[(0,u1),(1,u2),(5,(I x1)),(11,(I x1)),(12,u1),(13,(I (List.length a1:Int))),(14,(.bool (decide (x1 < (List.length a1:Int))))),(17,u1),(18,(I x1)),(19,(ptr b1 o1)),(21,u2),(22,(I x1)),(23,(ptr b2 o2))]) ⟨z,z,z,z,z,z,z,z,z,z,z,z,z,Ah⟩<|Bq [⟨3,[],fun vs=>Bg (I x2),[]⟩,⟨7,[],fun vs=>Bg (I x3),[]⟩] [[],[]] 1 z (by kernel_rfl) (by kernel_rfl) z ?_ ?_
    ·refine Aq z ?_ ?_
     ·intro w3 hB3
      refine Ax<|⟨_,z,?_⟩
      refine AH ty3 h1 (hC2.keep.then hB3) z z (fun v1 h3=>?_)
      obtain rfl:=By h3
      exact Ab<|A3 (Am _ _) z z ⟨z,z⟩
     refine Aq z ?_ ?_
     ·intro w3 hB3
      refine Ax<|⟨_,z,?_⟩
      refine AH ty3 h2 (hC2.keep.then hB3) z z (fun v2 h4=>?_)
      obtain rfl:=By h4
      exact Ab<|A3 (Am _ _) z z ⟨z,z⟩
     exact Bl
    intro w4 hB4
    refine Av z z z ?_
    rintro _ _ ⟨rfl,rfl⟩
    refine Av z z z ?_
    rintro _ _ ⟨rfl,rfl⟩
    refine Bv fun hn1 hb1=>have hC3:=hC2.grow hB4;tk 8 z z (CZ z z)<|BI z z z<|Ab<|dn<|Aj<|A7 z (fun hc3=>?_) (fun hc3=>?_)
    ·replace hL1:=A9 hL1 hc3
     refine Ac<|Ae z z<|Ab<|AC<|AU<|Ar<|Ar<|AU<|Ar<|Ar<|?_
     obtain rfl:=Aa hL1
     dsimp only at hF
     obtain rfl:=Aa hF
     exact Ay z z<|⟨_,z,AD hC3 _⟩
    replace hL1:=AA hL1 hc3
    exact A6<|AJ<|Aj<|AX<|Af z z<|Be z z z<|Ae z z<|Ab<|An (l':=[(0,u1),(1,u2),(5,(I (w64 (x1+1))))]) ⟨z,z,z,Ah⟩<|⟨k1,Az _,w64 (x1+1),z,(((Ap hB1).then hB2).then hB4).below,hC3,hL1⟩
   replace hL1:=AA hL1 hc2
   refine Bm (A2 (A2 (AT ?_)))
   obtain rfl:=Aa hL1
   exact An (l':=[]) Ah<|⟨z,z,(Ap hB1).below,hC1⟩
 rintro l2 _ w5 hs2 ⟨rfl,rfl,hB5,hC4⟩
 try dsimp only at hF
 refine AO hs2 ?_
 clear hs2
 refine Ac<|Ae z z<|Ab<|AC<|?_
 obtain rfl:=Aa hF
 exact Ay z z<|⟨_,z,AD hC4 _⟩
theorem c_Q_eqIntSS {w0:World} (a1:(List (List Int))) (u1:Value) (g1:RO [] w0 u1 a1) (a2:(List (List Int))) (u2:Value) (g2:RO [] w0 u2 a2) (rr:Bool) (hF:Q.eqIntSS a1 a2=some rr) :
 Calls Tryz.prog 34 [u1,u2].toArray w0 fun e w'=>∃v,e=.returned v∧Res w0 rr v w':=by
 refine Aw Tryz.func34 z z ?_
 have hC0:=A1 w0
 unfold Q.eqIntSS at hF
 refine Ac<|Ae z z<|Ab<|A0<|Ac<|Af z z<|AL AG g1 z z<|Af z z<|AL AG g2 z z<|BI z z z<|Ab<|A7 z (fun hc1=>?_) (fun hc1=>?_)
 ·replace hF:=A9 hF hc1
  refine Ac<|Ae z z<|Ab<|AC<|Ar<|?_
  obtain rfl:=Aa hF
  exact Ay z z<|⟨_,z,AD hC0 _⟩
 replace hF:=AA hF hc1
 refine A6<|Aj<|A0<|Ac<|Ae z z<|Ab<|be hF fun r1 hr1 hF=>Bf (fun l w=>.inl ()=r1∧l=[]∧Below w0.heap.size w0 w∧Ctx [] w0 w []) ?_ ?_
 ·refine AB<|wS (l':=[(0,u1),(1,u2),(5,(I 0))]) ⟨z,z,z,Ah⟩<|Bo (fun k l w=>∃x1:Int,l=[(0,u1),(1,u2),(5,(I x1))]∧Below w0.heap.size w0 w∧Ctx [] w0 w []∧Q.eqIntSS_l1 a1 a2 k x1=some r1) FUEL ⟨0,z,(Am _ _),hC0,hr1⟩<|?_
  clear hr1
  rintro k1 _ w1 ⟨x1,rfl,hB1,hC1,hL1⟩
  cases k1 with
  | zero=>rw [Q.eqIntSS_l1] at hL1; cases hL1
  | succ k1 =>
   rw [Q.eqIntSS_l1] at hL1
   refine A0<|Ac<|Af z z<|Af z z<|AL AG g1 z z<|AW z z z<|Ab<|A7 z (fun hc2=>?_) (fun hc2=>?_)
   ·replace hL1:=A9 hL1 hc2
    refine A6<|Aj<|A0<|AB<|A0<|W_drawn 10 z hmix fun w2 hB2=>have hC2:=hC1.grow hB2;tm 0 z z z<|tm 1 z z z<|be hL1 fun x2 hx1 hL1=>tk 2 z z (B8 AG ty24 g1 hx1 z z)<|AE AG ty24 g1 hx1 z z z fun b1 o1 h1=>Ab<|tm 4 z z z<|tm 5 z z z<|be hL1 fun x3 hx2 hL1=>tk 6 z z (B8 AG ty24 g2 hx2 z z)<|AE AG ty24 g2 hx2 z z z fun b2 o2 h2=>Ab<|wAS (l':=[(0,u1),(1,u2),(5,(I x1)),(11,(I x1)),(12,u1),(13,(I (List.length a1:Int))),(14,(.bool (decide (x1 < (List.length a1:Int))))),(17,u1),(18,(I x1)),(19,(ptr b1 o1)),(21,u2),(22,(I x1)),(23,(ptr b2 o2))]) ⟨z,z,z,z,z,z,z,z,z,z,z,z,z,Ah⟩<|Bq [⟨3,[],fun vs=>Cc [] w0 x2,[]⟩,⟨7,[],fun vs=>Cc [] w0 x3,[]⟩] [[],[]] 2 z (by kernel_rfl) (by kernel_rfl) z ?_ ?_
    ·refine Aq z ?_ ?_
     ·intro w3 hB3
      refine Ax<|⟨_,z,?_⟩
      exact AH ty24 h1 (hC2.keep.then hB3) z z fun v1 h3=>Ab<|A3 (Am _ _) z z ⟨z,h3⟩
     refine Aq z ?_ ?_
     ·intro w3 hB3
      refine Ax<|⟨_,z,?_⟩
      exact AH ty24 h2 (hC2.keep.then hB3) z z fun v2 h4=>Ab<|A3 (Am _ _) z z ⟨z,h4⟩
     exact Bl
    intro w4 hB4
    refine Av z z z ?_
    rintro v1 _ ⟨rfl,h3⟩
    refine Av z z z ?_
    rintro v2 _ ⟨rfl,h4⟩
    refine Bv fun hn1 hb1=>have hC3:=hC2.grow hB4;be hL1 fun x4 hr2 hL1=>oe 8 z<|cb C3 z z (c_Q_eqIntS x2 v1 (h3.now hC3.keep) x3 v2 (h4.now hC3.keep) x4 hr2) fun w5 hB5=>have hC4:=hC3.grow hB5;Ab<|tk 9 z z (Cs z)<|Bw z z<|Ab<|dn<|Aj<|A7 z (fun hc3=>?_) (fun hc3=>?_)
    ·replace hL1:=A9 hL1 hc3
     refine Ac<|Ae z z<|Ab<|AC<|AU<|Ar<|Ar<|AU<|Ar<|Ar<|?_
     obtain rfl:=Aa hL1
     dsimp only at hF
     obtain rfl:=Aa hF
     exact Ay z z<|⟨_,z,AD hC4 _⟩
    replace hL1:=AA hL1 hc3
    exact A6<|AJ<|Aj<|AX<|Af z z<|Be z z z<|Ae z z<|Ab<|An (l':=[(0,u1),(1,u2),(5,(I (w64 (x1+1))))]) ⟨z,z,z,Ah⟩<|⟨k1,Az _,w64 (x1+1),z,((((Ap hB1).then hB2).then hB4).then hB5).below,hC4,hL1⟩
   replace hL1:=AA hL1 hc2
   refine Bm (A2 (A2 (AT ?_)))
   obtain rfl:=Aa hL1
   exact An (l':=[]) Ah<|⟨z,z,(Ap hB1).below,hC1⟩
 rintro l2 _ w6 hs2 ⟨rfl,rfl,hB6,hC5⟩
 try dsimp only at hF
 refine AO hs2 ?_
 clear hs2
 refine Ac<|Ae z z<|Ab<|AC<|?_
 obtain rfl:=Aa hF
 exact Ay z z<|⟨_,z,AD hC5 _⟩
theorem c_Q_eqMethod {w0:World} (a1:(Int × (List Int) × Int × Int × Int)) (u1:Value) (g1:RO [] w0 u1 a1.2.1) (a2:(Int × (List Int) × Int × Int × Int)) (u2:Value) (g2:RO [] w0 u2 a2.2.1) (rr:Bool) (hF:Q.eqMethod a1 a2=some rr) :
 Calls Tryz.prog 79 [(.agg #[(I a1.1),u1,(I a1.2.2.1),(I a1.2.2.2.1),(I a1.2.2.2.2)]),(.agg #[(I a2.1),u2,(I a2.2.2.1),(I a2.2.2.2.1),(I a2.2.2.2.2)])].toArray w0 fun e w'=>∃v,e=.returned v∧Res w0 rr v w':=by
 refine Aw Tryz.func79 z z ?_
 have hC0:=A1 w0
 unfold Q.eqMethod at hF
 refine Ac<|Bb (cs:=[(I a1.1),u1,(I a1.2.2.1),(I a1.2.2.2.1),(I a1.2.2.2.2)]) hC0 z z z fun b1 w1 hC1 hB1 hN1=>Bb (cs:=[(I a2.1),u2,(I a2.2.2.1),(I a2.2.2.2.1),(I a2.2.2.2.2)]) hC1 z z z fun b2 w2 hC2 hB2 hN2=>Ae z z<|Ab<|A0<|Ac<|fd AK A5 z z z z<|Al hC2 1 z z AV z z<|fd AK A5 z z z z<|Al hC2 0 z z AV z z<|BI z z z<|Ab<|A7 z (fun hc1=>?_) (fun hc1=>?_)
 ·replace hF:=A9 hF hc1
  refine Ac<|Ae z z<|Ab<|AC<|Ar<|?_
  obtain rfl:=Aa hF
  exact Ay z z<|⟨_,z,AD hC2 _⟩
 replace hF:=AA hF hc1
 refine A6<|Aj<|A0<|Ac<|fd AK Au z z z z<|Al hC2 1 z z At z z<|fd AK Au z z z z<|Al hC2 0 z z At z z<|be hF fun x1 hr1 hF=>cb C3 z z (c_Q_eqIntS a1.2.1 u1 (g1.now hC2.keep) a2.2.1 u2 (g2.now hC2.keep) x1 hr1) fun w3 hB3=>have hC3:=hC2.grow hB3;Bw z z<|Ab<|A7 z (fun hc2=>?_) (fun hc2=>?_)
 ·replace hF:=A9 hF hc2
  refine Ac<|Ae z z<|Ab<|AC<|Ar<|?_
  obtain rfl:=Aa hF
  exact Ay z z<|⟨_,z,AD hC3 _⟩
 replace hF:=AA hF hc2
 refine A6<|Aj<|A0<|Ac<|fd AK A5 z z z z<|Al hC3 1 z z AV z z<|fd AK A5 z z z z<|Al hC3 0 z z AV z z<|BI z z z<|Ab<|A7 z (fun hc3=>?_) (fun hc3=>?_)
 ·replace hF:=A9 hF hc3
  refine Ac<|Ae z z<|Ab<|AC<|Ar<|?_
  obtain rfl:=Aa hF
  exact Ay z z<|⟨_,z,AD hC3 _⟩
 replace hF:=AA hF hc3
 refine A6<|Aj<|A0<|Ac<|fd AK A5 z z z z<|Al hC3 1 z z AV z z<|fd AK A5 z z z z<|Al hC3 0 z z AV z z<|BI z z z<|Ab<|A7 z (fun hc4=>?_) (fun hc4=>?_)
 ·replace hF:=A9 hF hc4
  refine Ac<|Ae z z<|Ab<|AC<|Ar<|?_
  obtain rfl:=Aa hF
  exact Ay z z<|⟨_,z,AD hC3 _⟩
 replace hF:=AA hF hc4
 refine A6<|Aj<|A0<|Ac<|fd AK A5 z z z z<|Al hC3 1 z z AV z z<|fd AK A5 z z z z<|Al hC3 0 z z AV z z<|BI z z z<|Ab<|A7 z (fun hc5=>?_) (fun hc5=>?_)
 ·replace hF:=A9 hF hc5
  refine Ac<|Ae z z<|Ab<|AC<|Ar<|?_
  obtain rfl:=Aa hF
  exact Ay z z<|⟨_,z,AD hC3 _⟩
 replace hF:=AA hF hc5
 refine A6<|Aj<|Ac<|Ae z z<|Ab<|AC<|?_
 obtain rfl:=Aa hF
 exact Ay z z<|⟨_,z,AD hC3 _⟩
end Go.Gx.Px
