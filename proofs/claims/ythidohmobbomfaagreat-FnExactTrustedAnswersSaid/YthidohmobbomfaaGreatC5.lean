/- The contracts of the Go functions against the pure functions, printed by program. Conditions: each says them. -/
import Derived.Test.YthidohmobbomfaaGreatC4
set_option linter.unusedVariables false
set_option linter.unusedSimpArgs false
set_option maxRecDepth 100000
set_option maxHeartbeats 4000000
namespace Go.Gx.Px
open Go.Proofs Go.RowKit
open K9
theorem c_S_FirstConflict {w0:World} (a1:(List Int)) (u1:Value) (g1:RO [] w0 u1 a1) (a2:(List (Int × (List Int) × Int × Int × Int))) (u2:Value) (g2:RO [] w0 u2 a2) (a3:(List ((Int × (List Int)) × (List (Int × (List Int)))))) (u3:Value) (g3:RO [] w0 u3 a3) (rr:(Int × Int × Bool)) (hF:S.FirstConflict a1 a2 a3=some rr) :
 Calls Tryz.prog 60 [u1,u2,u3].toArray w0 fun e w'=>∃v,e=.returned v∧Res3 w0 rr.1 rr.2.1 rr.2.2 v w':=by
 refine Aw Tryz.func60 z z ?_
 have hC0:=A1 w0
 unfold S.FirstConflict at hF
 refine Ac<|Ae z z<|Ae z z<|Ae z z<|Ab<|A0<|Ac<|Ae z z<|Ab<|be hF fun r1 hr1 hF=>Bf (fun l w=>.inl ()=r1∧l=[]∧Below w0.heap.size w0 w∧Ctx [] w0 w []) ?_ ?_
 ·refine AB<|wS (l':=[(0,u1),(1,u2),(2,u3),(9,(I 0))]) ⟨z,z,z,z,Ah⟩<|Bo (fun k l w=>∃x1:Int,l=[(0,u1),(1,u2),(2,u3),(9,(I x1))]∧Below w0.heap.size w0 w∧Ctx [] w0 w []∧S.FirstConflict_l1 a3 a1 a2 k x1=some r1) FUEL ⟨0,z,(Am _ _),hC0,hr1⟩<|?_
  clear hr1
  rintro k1 _ w1 ⟨x1,rfl,hB1,hC1,hL1⟩
  cases k1 with
  | zero=>rw [S.FirstConflict_l1] at hL1; cases hL1
  | succ k1 =>
   rw [S.FirstConflict_l1] at hL1
   refine A0<|Ac<|Af z z<|Af z z<|AL AR g3 z z<|AW z z z<|Ab<|A7 z (fun hc1=>?_) (fun hc1=>?_)
   ·replace hL1:=A9 hL1 hc1
    refine A6<|Aj<|A0<|AB<|A0<|Ac<|Af z z<|Af z z<|Af z z<|Af z z<|be hL1 fun x2 hx1 hL1=>AE AR ty84 g3 hx1 z z z fun b1 o1 h1=>AH ty84 h1 hC1.keep z z fun v1 h2=>?_
    obtain ⟨v2,v3,rfl,h3,h4⟩:=C0 h2
    refine be hL1 fun x3 hr2 hL1=>cb Tryz.call106 z z (c_S_FitsSelf a1 u1 (g1.now hC1.keep) a2 u2 (g2.now hC1.keep) x2 v2 (h3.now hC1.keep) v3 (h4.now hC1.keep) x3 hr2) fun w2 hB2=>have hC2:=hC1.grow hB2;Bw z z<|Ab<|A7 z (fun hc2=>?_) (fun hc2=>?_)
    ·replace hL1:=A9 hL1 hc2
     refine Ac<|Af z z<|Af z z<|Ae z z<|Ae z z<|Ae z z<|Ab<|AC<|Ar<|AU<|Ar<|Ar<|AU<|Ar<|Ar<|?_
     obtain rfl:=Aa hL1
     dsimp only at hF
     obtain rfl:=Aa hF
     refine Db z z z z ?_
     have hC3:=hC2.triv (BU (true))
     have hC4:=hC3.triv (B2 (x1))
     have hC5:=hC4.triv (B2 (x1))
     exact ⟨_,z,res3_of hC5⟩
    replace hL1:=AA hL1 hc2
    refine A6<|Aj<|Ac<|Ae z z<|Ab<|be hL1 fun r2 hr3 hL1=>Bf (fun l w=>.inl ()=r2∧l=[(0,u1),(1,u2),(2,u3),(9,(I x1))]∧Below w2.heap.size w2 w∧Ctx [] w0 w []) ?_ ?_
    ·refine AB<|wS (l':=[(0,u1),(1,u2),(2,u3),(9,(I x1)),(10,(I 0))]) ⟨z,z,z,z,z,Ah⟩<|Bo (fun k l w=>∃x4:Int,l=[(0,u1),(1,u2),(2,u3),(9,(I x1)),(10,(I x4))]∧Below w2.heap.size w2 w∧Ctx [] w0 w []∧S.FirstConflict_l2 x1 a3 a1 a2 k x4=some r2) FUEL ⟨0,z,(Am _ _),hC2,hr3⟩<|?_
     clear hr3
     rintro k2 _ w3 ⟨x4,rfl,hB3,hC6,hL2⟩
     cases k2 with
     | zero=>rw [S.FirstConflict_l2] at hL2; cases hL2
     | succ k2 =>
      rw [S.FirstConflict_l2] at hL2
      refine A0<|Ac<|Af z z<|Af z z<|AW z z z<|Ab<|A7 z (fun hc3=>?_) (fun hc3=>?_)
      ·replace hL2:=A9 hL2 hc3
       refine A6<|Aj<|A0<|AB<|A0<|W_drawn 11 z hmix fun w4 hB4=>have hC7:=hC6.grow hB4;tm 0 z z z<|tm 1 z z z<|tm 2 z z z<|tm 3 z z z<|be hL2 fun x5 hx2 hL2=>tk 4 z z (B8 AR ty84 g3 hx2 z z)<|AE AR ty84 g3 hx2 z z z fun b2 o2 h5=>Ab<|tm 6 z z z<|tm 7 z z z<|be hL2 fun x6 hx3 hL2=>tk 8 z z (B8 AR ty84 g3 hx3 z z)<|AE AR ty84 g3 hx3 z z z fun b3 o3 h6=>Ab<|wAS (l':=[(0,u1),(1,u2),(2,u3),(9,(I x1)),(10,(I x4)),(27,(I x4)),(28,(I x1)),(29,(.bool (decide (x4 < x1)))),(32,u1),(33,u2),(34,u3),(35,(I x4)),(36,(ptr b2 o2)),(38,u3),(39,(I x1)),(40,(ptr b3 o3))]) ⟨z,z,z,z,z,z,z,z,z,z,z,z,z,z,z,z,Ah⟩<|Bq [⟨5,[],fun vs=>Cc [] w0 x5,[]⟩,⟨9,[],fun vs=>Cc [] w0 x6,[]⟩] [[],[]] 1 z (by kernel_rfl) (by kernel_rfl) z ?_ ?_
       ·refine Aq z ?_ ?_
        ·intro w5 hB5
         refine Ax<|⟨_,z,?_⟩
         exact AH ty84 h5 (hC7.keep.then hB5) z z fun v7 h10=>Ab<|A3 (Am _ _) z z ⟨z,h10⟩
        refine Aq z ?_ ?_
        ·intro w5 hB5
         refine Ax<|⟨_,z,?_⟩
         exact AH ty84 h6 (hC7.keep.then hB5) z z fun v11 h14=>Ab<|A3 (Am _ _) z z ⟨z,h14⟩
        exact Bl
       intro w6 hB6
       refine Av z z z ?_
       rintro v7 _ ⟨rfl,h10⟩
       obtain ⟨v5,v6,rfl,h8,h9⟩:=C0 h10
       refine Av z z z ?_
       rintro v11 _ ⟨rfl,h14⟩
       obtain ⟨v9,v10,rfl,h12,h13⟩:=C0 h14
       refine Bv fun hn1 hb1=>have hC8:=hC7.grow hB6;be hL2 fun x7 hr4 hL2=>oe 10 z<|cb Tryz.call107 z z (c_S_Disagree a1 u1 (g1.now hC8.keep) a2 u2 (g2.now hC8.keep) x5 v5 (h8.now hC8.keep) v6 (h9.now hC8.keep) x6 v9 (h12.now hC8.keep) v10 (h13.now hC8.keep) x7 hr4) fun w7 hB7=>have hC9:=hC8.grow hB7;Ab<|dn<|Aj<|A7 z (fun hc4=>?_) (fun hc4=>?_)
       ·replace hL2:=A9 hL2 hc4
        refine Ac<|Af z z<|Af z z<|Ae z z<|Ae z z<|Ae z z<|Ab<|AC<|AU<|Ar<|Ar<|AU<|Ar<|AU<|Ar<|Ar<|AU<|Ar<|Ar<|?_
        obtain rfl:=Aa hL2
        dsimp only at hL1
        obtain rfl:=Aa hL1
        dsimp only at hF
        obtain rfl:=Aa hF
        refine Db z z z z ?_
        have hC10:=hC9.triv (BU (true))
        have hC11:=hC10.triv (B2 (x1))
        have hC12:=hC11.triv (B2 (x4))
        exact ⟨_,z,res3_of hC12⟩
       replace hL2:=AA hL2 hc4
       exact A6<|AJ<|Aj<|AX<|Af z z<|Be z z z<|Ae z z<|Ab<|An (l':=[(0,u1),(1,u2),(2,u3),(9,(I x1)),(10,(I (w64 (x4+1))))]) ⟨z,z,z,z,z,Ah⟩<|⟨k2,Az _,w64 (x4+1),z,((((Ap hB3).then hB4).then hB6).then hB7).below,hC9,hL2⟩
      replace hL2:=AA hL2 hc3
      refine Bm (A2 (A2 (AT ?_)))
      obtain rfl:=Aa hL2
      exact An (l':=[(0,u1),(1,u2),(2,u3),(9,(I x1))]) ⟨z,z,z,z,Ah⟩<|⟨z,z,(Ap hB3).below,hC6⟩
    rintro l3 _ w9 hs3 ⟨rfl,rfl,hB8,hC13⟩
    try dsimp only at hL1
    refine AJ<|AO hs3<|?_
    clear hs3
    exact AX<|Af z z<|Be z z z<|Ae z z<|Ab<|An (l':=[(0,u1),(1,u2),(2,u3),(9,(I (w64 (x1+1))))]) ⟨z,z,z,z,Ah⟩<|⟨k1,Az _,w64 (x1+1),z,(((Ap hB1).then hB2).then hB8).below,hC13,hL1⟩
   replace hL1:=AA hL1 hc1
   refine Bm (A2 (A2 (AT ?_)))
   obtain rfl:=Aa hL1
   exact An (l':=[]) Ah<|⟨z,z,(Ap hB1).below,hC1⟩
 rintro l4 _ w10 hs4 ⟨rfl,rfl,hB9,hC14⟩
 try dsimp only at hF
 refine AO hs4 ?_
 clear hs4
 refine Ac<|Ae z z<|Ae z z<|Ae z z<|Ab<|AC<|?_
 obtain rfl:=Aa hF
 refine Db z z z z ?_
 have hC15:=hC14.triv (BU (false))
 have hC16:=hC15.triv (B2 ((-1)))
 have hC17:=hC16.triv (B2 ((-1)))
 exact ⟨_,z,res3_of hC17⟩
theorem c_S_IsConsistent {w0:World} (a1:(List Int)) (u1:Value) (g1:RO [] w0 u1 a1) (a2:(List (Int × (List Int) × Int × Int × Int))) (u2:Value) (g2:RO [] w0 u2 a2) (a3:(List ((Int × (List Int)) × (List (Int × (List Int)))))) (u3:Value) (g3:RO [] w0 u3 a3) (rr:Bool) (hF:S.IsConsistent a1 a2 a3=some rr) :
 Calls Tryz.prog 21 [u1,u2,u3].toArray w0 fun e w'=>∃v,e=.returned v∧Res w0 rr v w':=by
 refine Aw Tryz.func21 z z ?_
 have hC0:=A1 w0
 unfold S.IsConsistent at hF
 refine Ac<|Ae z z<|Ab<|Ac<|Af z z<|Af z z<|Af z z<|be hF fun x1 hr1 hF=>Bc Tryz.call60 z z (c_S_FirstConflict a1 u1 (g1.now hC0.keep) a2 u2 (g2.now hC0.keep) a3 u3 (g3.now hC0.keep) x1 hr1)<|?_
 rintro _ w1 ⟨hB1,v1,v2,v3,F1,F2,F3,rfl,hv1,hv2,hv3,hn1,hb1⟩
 obtain ⟨rfl,rfl⟩:=val_int hv1
 obtain ⟨rfl,rfl⟩:=val_int hv2
 obtain ⟨rfl,rfl⟩:=val_bool hv3
 have hC1:=hC0.grow hB1
 refine Af z z<|BJ z z z<|BJ z z z<|BJ z z z<|Ae z z<|Ae z z<|Ae z z<|Ab<|be hF fun r1 hr2 hF=>BH (fun l w=>∃x2:Bool,x2=r1∧l=[(6,(.bool x2))]∧Below w1.heap.size w1 w∧Ctx [] w0 w []) ?_ ?_
 ·refine AX<|Af z z<|Af z z<|be hr2 fun x3 hr3 hr2=>cb Tryz.call47 z z (c_S_AreMethods a1 u1 (g1.now hC1.keep) a2 u2 (g2.now hC1.keep) x3 hr3) fun w3 hB3=>have hC3:=hC1.grow hB3;Af z z<|Bz (fun hc1=>?_) (fun hc1=>?_)
  ·replace hr2:=A9 hr2 hc1
   refine Ak z z<|Af z z<|Ak z z<|Bw z z<|Ba z z z<|Ae z z<|Ab<|?_
   obtain rfl:=Aa hr2
   exact An (l':=[(6,(.bool (!x1.2.2)))]) ⟨z,Ah⟩<|⟨(!x1.2.2),z,z,(Ap hB3).below,hC3⟩
  replace hr2:=AA hr2 hc1
  refine gs z z z z<|gs z z z z<|AY z z z<|Ae z z<|Ab<|?_
  obtain rfl:=Aa hr2
  exact An (l':=[(6,(.bool false))]) ⟨z,Ah⟩<|⟨false,z,z,(Ap hB3).below,hC3⟩
 rintro _ w2 ⟨x2,rfl,rfl,hB2,hC2⟩
 try dsimp only at hF
 refine AC ?_
 obtain rfl:=Aa hF
 exact Ay z z<|⟨_,z,AD hC2 _⟩
theorem c_S_l2Has {w0:World} (a1:(List Int)) (u1:Value) (g1:RO [] w0 u1 a1) (a2:Int) (rr:Bool) (hF:S.l2Has a1 a2=some rr) :
 Calls Tryz.prog 61 [u1,(I a2)].toArray w0 fun e w'=>∃v,e=.returned v∧Res w0 rr v w':=by
 refine Aw Tryz.func61 z z ?_
 have hC0:=A1 w0
 unfold S.l2Has at hF
 refine Ac<|Ae z z<|Ab<|A0<|Ac<|Ae z z<|Ab<|be hF fun r1 hr1 hF=>Bf (fun l w=>.inl ()=r1∧l=[]∧Below w0.heap.size w0 w∧Ctx [] w0 w []) ?_ ?_
 ·refine AB<|wS (l':=[(0,u1),(1,(I a2)),(5,(I 0))]) ⟨z,z,z,Ah⟩<|Bo (fun k l w=>∃x1:Int,l=[(0,u1),(1,(I a2)),(5,(I x1))]∧Below w0.heap.size w0 w∧Ctx [] w0 w []∧S.l2Has_l1 a1 a2 k x1=some r1) FUEL ⟨0,z,(Am _ _),hC0,hr1⟩<|?_
  clear hr1
  rintro k1 _ w1 ⟨x1,rfl,hB1,hC1,hL1⟩
  cases k1 with
  | zero=>rw [S.l2Has_l1] at hL1; cases hL1
  | succ k1 =>
   rw [S.l2Has_l1] at hL1
   refine A0<|Ac<|Af z z<|Af z z<|AL Ag g1 z z<|AW z z z<|Ab<|A7 z (fun hc1=>?_) (fun hc1=>?_)
   ·replace hL1:=A9 hL1 hc1
    refine A6<|Aj<|A0<|AB<|Ac<|Af z z<|Af z z<|be hL1 fun x2 hx1 hL1=>AE Ag ty3 g1 hx1 z z z fun b1 o1 h1=>AH ty3 h1 hC1.keep z z fun v1 h2=>?_
    obtain rfl:=By h2
    refine Af z z<|Ca z z z<|Ab<|A7 z (fun hc2=>?_) (fun hc2=>?_)
    ·replace hL1:=A9 hL1 hc2
     refine Ac<|Ae z z<|Ab<|AC<|AU<|Ar<|Ar<|AU<|Ar<|Ar<|?_
     obtain rfl:=Aa hL1
     dsimp only at hF
     obtain rfl:=Aa hF
     exact Ay z z<|⟨_,z,AD hC1 _⟩
    replace hL1:=AA hL1 hc2
    exact A6<|AJ<|Aj<|AX<|Af z z<|Be z z z<|Ae z z<|Ab<|An (l':=[(0,u1),(1,(I a2)),(5,(I (w64 (x1+1))))]) ⟨z,z,z,Ah⟩<|⟨k1,Az _,w64 (x1+1),z,(Ap hB1).below,hC1,hL1⟩
   replace hL1:=AA hL1 hc1
   refine Bm (A2 (A2 (AT ?_)))
   obtain rfl:=Aa hL1
   exact An (l':=[]) Ah<|⟨z,z,(Ap hB1).below,hC1⟩
 rintro l2 _ w2 hs2 ⟨rfl,rfl,hB2,hC2⟩
 try dsimp only at hF
 refine AO hs2 ?_
 clear hs2
 refine Ac<|Ae z z<|Ab<|AC<|?_
 obtain rfl:=Aa hF
 exact Ay z z<|⟨_,z,AD hC2 _⟩
theorem c_S_l8Access {w0:World} (a1:Int) (a2:(List Int)) (u1:Value) (g1:RO [] w0 u1 a2) (rr:(Int × (List Int))) (hF:S.l8Access a1 a2=some rr) :
 Calls Tryz.prog 108 [(I a1),u1].toArray w0 fun e w'=>∃v,e=.returned v∧Res w0 rr v w':=by
 refine Aw Tryz.func108 z z ?_
 have hC0:=A1 w0
 unfold S.l8Access at hF
 refine Ac<|B0 hC0 zero82 z z fun b1 w1 hC1 hB1 hN1=>Ab<|Ac<|Af z z<|A8 (vs:=[]) hC1 Ag ty3 z z z z (by simp) z z fun b2 w2 hC2 hB2=>?_
 have hC3:=hC2.row0 (α:=Int)
 have hC4:=hC3.front 1 z
 dsimp only [List.eraseIdx,List.cons_append,List.nil_append,List.append_nil] at hC4
 have hC5:Ctx [] w0 w2 (Ad (.slice (some ⟨b2,0,none⟩) 0 0) (([]:List Int):List Int)::[Ai b1 [(I 0),(.slice none 0 0)]]):=hC4.rowOwn (by simp [maxLen])
 refine Af z z<|be hF fun x1 hx1 hF=>Bt (α:=Int) hC5 0 z g1 hC5.keep Ag ty3 z hx1 z z z fun v1 w3 hC6=>?_
 try dsimp only [List.set] at hC6
 refine Ck (vs:=[(0,(I a1)),(1,v1)]) z z z (built82_0_1 z (ro_cells (hC6.ro 0 z)))<|AS (cs':=[(I a1),v1]) (new:=[(I a1),v1]) hC6 1 z z (fac z<|fac (B1 (hC6.ro 0 z))<|fa0) z Bu z z fun w4 hC7 hKp1=>?_
 try dsimp only [List.set] at hC7
 refine Ab (AC ?_)
 obtain rfl:=Aa hF
 refine Cl z (rv_cell_agg (cs':=[(I a1),v1]) hC7 (i:=1) z z z BZ Bu z) ?_
 have hC8:=own_st82 a1 v1 x1 hC7
 exact ⟨_,z,B7 hC8 0 z⟩
theorem c_S_l2One {w0:World} (a1:Int) (a2:(List Int)) (u1:Value) (g1:RO [] w0 u1 a2) (rr:(Int × (List Int))) (hF:S.l2One a1 a2=some rr) :
 Calls Tryz.prog 105 [(I a1),u1].toArray w0 fun e w'=>∃v,e=.returned v∧Res w0 rr v w':=by
 refine Aw Tryz.func105 z z ?_
 have hC0:=A1 w0
 unfold S.l2One at hF
 refine Ac<|B0 hC0 zero77 z z fun b1 w1 hC1 hB1 hN1=>Ab<|Ac<|Af z z<|A8 (vs:=[]) hC1 Ag ty3 z z z z (by simp) z z fun b2 w2 hC2 hB2=>?_
 have hC3:=hC2.row0 (α:=Int)
 have hC4:=hC3.front 1 z
 dsimp only [List.eraseIdx,List.cons_append,List.nil_append,List.append_nil] at hC4
 have hC5:Ctx [] w0 w2 (Ad (.slice (some ⟨b2,0,none⟩) 0 0) (([]:List Int):List Int)::[Ai b1 [(I 0),(.slice none 0 0)]]):=hC4.rowOwn (by simp [maxLen])
 refine Af z z<|be hF fun x1 hx1 hF=>Bt (α:=Int) hC5 0 z g1 hC5.keep Ag ty3 z hx1 z z z fun v1 w3 hC6=>?_
 try dsimp only [List.set] at hC6
 refine Ck (vs:=[(0,(I a1)),(1,v1)]) z z z (built77_0_1 z (ro_cells (hC6.ro 0 z)))<|AS (cs':=[(I a1),v1]) (new:=[(I a1),v1]) hC6 1 z z (fac z<|fac (B1 (hC6.ro 0 z))<|fa0) z Br z z fun w4 hC7 hKp1=>?_
 try dsimp only [List.set] at hC7
 refine Ab (AC ?_)
 obtain rfl:=Aa hF
 refine Cl z (rv_cell_agg (cs':=[(I a1),v1]) hC7 (i:=1) z z z B4 Br z) ?_
 have hC8:=Cm a1 v1 x1 hC7
 exact ⟨_,z,B7 hC8 0 z⟩
theorem c_S_l2Copy {w0:World} (a1:(List (Int × (List Int)))) (u1:Value) (g1:RO [] w0 u1 a1) (rr:(List (Int × (List Int)))) (hF:S.l2Copy a1=some rr) :
 Calls Tryz.prog 109 [u1].toArray w0 fun e w'=>∃v,e=.returned v∧Res w0 rr v w':=by
 refine Aw Tryz.func109 z z ?_
 have hC0:=A1 w0
 unfold S.l2Copy at hF
 refine Ac<|Ae z z<|Ab<|Ac<|A8 (vs:=[]) hC0 Ao ty77 z z z z (by simp) z z fun b1 w1 hC1 hB1=>?_
 have hC2:=hC1.row0 (α:=(Int × (List Int)))
 have hC3:=hC2.front 1 z
 dsimp only [List.eraseIdx,List.cons_append,List.nil_append,List.append_nil] at hC3
 have hC4:Ctx [] w0 w1 (Ad (.slice (some ⟨b1,0,none⟩) 0 0) (([]:List (Int × (List Int))):List (Int × (List Int)))::[]):=hC3.rowOwn (by simp [maxLen])
 refine Ae z z<|Ab<|A0<|Ac<|Ae z z<|Ab<|be hF fun r1 hr1 hF=>Bf (fun l w=>∃v2:Value,∃x3:(List (Int × (List Int))),x3=r1∧l=[(3,v2)]∧Ctx [] w0 w [Ad v2 (x3:(List (Int × (List Int))))]) ?_ ?_
 ·refine AB<|wS (l':=[(0,u1),(3,(.slice (some ⟨b1,0,none⟩) 0 0)),(4,(I 0))]) ⟨z,z,z,Ah⟩<|Bo (fun k l w=>∃v1:Value,∃x1:(List (Int × (List Int))),∃x2:Int,l=[(0,u1),(3,v1),(4,(I x2))]∧Ctx [] w0 w [Ad v1 (x1:(List (Int × (List Int))))]∧S.l2Copy_l1 a1 k x1 x2=some r1) FUEL ⟨(.slice (some ⟨b1,0,none⟩) 0 0),([]:List (Int × (List Int))),0,z,hC4,hr1⟩<|?_
  clear hr1
  rintro k1 _ w2 ⟨v1,x1,x2,rfl,hC5,hL1⟩
  cases k1 with
  | zero=>rw [S.l2Copy_l1] at hL1; cases hL1
  | succ k1 =>
   rw [S.l2Copy_l1] at hL1
   refine A0<|Ac<|Af z z<|Af z z<|AL Ao g1 z z<|AW z z z<|Ab<|A7 z (fun hc1=>?_) (fun hc1=>?_)
   ·replace hL1:=A9 hL1 hc1
    refine A6<|Aj<|A0<|AB<|W_drawn 15 z hmix fun w3 hB3=>have hC6:=hC5.grow hB3;tm 0 z z z<|tm 1 z z z<|tm 2 z z z<|be hL1 fun x4 hx1 hL1=>tk 3 z z (B8 Ao ty77 g1 hx1 z z)<|AE Ao ty77 g1 hx1 z z z fun b2 o1 h1=>Ab<|tf 4 AF A5 z z z z z<|tm 6 z z z<|tm 7 z z z<|be hL1 fun x5 hx2 hL1=>tk 8 z z (B8 Ao ty77 g1 hx2 z z)<|AE Ao ty77 g1 hx2 z z z fun b3 o2 h2=>Ab<|tf 9 AF Au z z z z z<|wAS (l':=[(0,u1),(3,v1),(4,(I x2)),(6,(I x2)),(7,u1),(8,(I (List.length a1:Int))),(9,(.bool (decide (x2 < (List.length a1:Int))))),(12,v1),(13,u1),(14,(I x2)),(15,(ptr b2 o1)),(16,(ptr b2 (o1+0))),(18,u1),(19,(I x2)),(20,(ptr b3 o2)),(21,(ptr b3 (o2+1)))]) ⟨z,z,z,z,z,z,z,z,z,z,z,z,z,z,z,z,Ah⟩<|Bq [⟨5,[],fun vs=>Bg (I x4.1),[]⟩,⟨10,[],fun vs=>Cc [] w0 x5.2,[]⟩] [[],[]] 4 z (by kernel_rfl) (by kernel_rfl) z ?_ ?_
    ·refine Aq z ?_ ?_
     ·intro w4 hB4
      refine Ax<|⟨_,z,?_⟩
      refine AH ty3 h1.fst (hC6.keep.then hB4) z z (fun v3 h3=>?_)
      obtain rfl:=By h3
      exact Ab<|A3 (Am _ _) z z ⟨z,z⟩
     refine Aq z ?_ ?_
     ·intro w4 hB4
      refine Ax<|⟨_,z,?_⟩
      exact AH ty24 h2.snd (hC6.keep.then hB4) z z fun v4 h4=>Ab<|A3 (Am _ _) z z ⟨z,h4⟩
     exact Bl
    intro w5 hB5
    refine Av z z z ?_
    rintro _ _ ⟨rfl,rfl⟩
    refine Av z z z ?_
    rintro v4 _ ⟨rfl,h4⟩
    refine Bv fun hn1 hb1=>have hC7:=hC6.grow hB5;be hL1 fun x6 hr2 hL1=>oe 11 z<|Bc Dh z z (c_S_l2One x4.1 x5.2 v4 (h4.now hC7.keep) x6 hr2)<|?_
    rintro v5 w6 ⟨hB6,F1,hv1,hn2,hb2⟩
    have hC8:=hC7.push hB6 (A:=Ad v5 x6) hv1 hn2 hb2
    obtain ⟨v6,rfl,hC9⟩:=st77_own hC8
    refine Ab<|oe 12 z<|A8 (vs:=[(.agg #[(I x6.1),v6])]) hC9 Ao ty77 z z z z (fac z<|fa0) z z fun b4 w7 hC10 hB7=>?_
    have hC11:=hC10.row0 (α:=(Int × (List Int)))
    have hC13:=hC11.f2
    have hC12:=Cm x6.1 v6 x6.2 hC13
    have hC14:=hC12.row1
    have hC15:=hC14.front 1 z
    dsimp only [List.eraseIdx,List.cons_append,List.nil_append,List.append_nil] at hC15
    have hC16:Ctx [] w0 w7 (Ad (.slice (some ⟨b4,0,none⟩) 1 1) ([(x6.1,x6.2)]:List (Int × (List Int)))::[Ad v1 (x1:(List (Int × (List Int))))]):=hC15.rowOwn (by simp [maxLen])
    refine Ab<|be hL1 fun x7 hx3 hL1=>oe 13 z<|BA hC16 0 z Ao ty77 z hx3 z z z fun v7 w9 hC17=>?_
    try dsimp only [List.set] at hC17
    exact Ab<|ta 14 z z z<|dn<|AJ<|Aj<|AX<|Af z z<|Be z z z<|Ae z z<|Ab<|An (l':=[(0,u1),(3,v7),(4,(I (w64 (x2+1))))]) ⟨z,z,z,Ah⟩<|⟨k1,Az _,v7,x7,w64 (x2+1),z,hC17,hL1⟩
   replace hL1:=AA hL1 hc1
   refine Bm (A2 (A2 (AT ?_)))
   obtain rfl:=Aa hL1
   exact An (l':=[(3,v1)]) ⟨z,Ah⟩<|⟨v1,x1,z,z,hC5⟩
 rintro l2 _ w10 hs2 ⟨v2,x3,rfl,rfl,hC19⟩
 try dsimp only at hF
 refine AO hs2 ?_
 clear hs2
 refine Ac<|Af z z<|Ae z z<|Ab<|AC<|?_
 obtain rfl:=Aa hF
 exact Ay z z<|⟨_,z,B7 hC19 0 z⟩
theorem c_S_l29Told {w0:World} (a1:((Int × (List Int)) × (List (Int × (List Int))))) (u1:Value) (g1:RO [] w0 u1 a1.1.2) (u2:Value) (g2:RO [] w0 u2 a1.2) (rr:((Int × (List Int)) × (List (Int × (List Int))))) (hF:S.l29Told a1=some rr) :
 Calls Tryz.prog 62 [(.agg #[(I a1.1.1),u1,u2])].toArray w0 fun e w'=>∃v,e=.returned v∧Res w0 rr v w':=by
 refine Aw Tryz.func62 z z ?_
 have hC0:=A1 w0
 unfold S.l29Told at hF
 refine Ac<|Bb (cs:=[(I a1.1.1),u1,u2]) hC0 z z z fun b1 w1 hC1 hB1 hN1=>B0 hC1 zero84 z z fun b2 w2 hC2 hB2 hN2=>Ab<|A0<|W_drawn 12 z hmix fun w3 hB3=>have hC3:=hC2.grow hB3;tf 0 AQ Bu z z z z z<|tf 1 Bd A5 z z z z z<|tf 3 AQ Bu z z z z z<|tf 4 Bd Au z z z z z<|tf 7 AQ Bx z z z z z<|be hF fun x1 hr1 hF=>wAS (l':=[(0,(.agg #[(I a1.1.1),u1,u2])),(1,(ptr b1 0)),(2,(ptr b2 0)),(3,(ptr b1 0)),(4,(ptr b1 0)),(6,(ptr b1 0)),(7,(ptr b1 1)),(10,(ptr b1 2))]) ⟨z,z,z,z,z,z,z,z,Ah⟩<|Bq [⟨2,[],fun vs=>Bg (I a1.1.1),[]⟩,⟨5,[],fun vs=>Bg u1,[]⟩,⟨6,[],fun vs=>BX x1,[]⟩,⟨8,[],fun vs=>Bg u2,[]⟩] [[],[],[2,5],[]] 3 z (by kernel_rfl) (by kernel_rfl) z ?_ ?_
 ·refine Aq z ?_ ?_
  ·intro w5 hB5
   refine Ax<|⟨_,z,?_⟩
   exact Al (hC3.grow hB5) 1 z z AV z z<|Ab<|A3 (Am _ _) z z ⟨z,z⟩
  refine Aq z ?_ ?_
  ·intro w5 hB5
   refine Ax<|⟨_,z,?_⟩
   exact Al (hC3.grow hB5) 1 z z At z z<|Ab<|A3 (Am _ _) z z ⟨z,z⟩
  refine Aq z ?_ ?_
  ·intro w5 hB5
   refine AN z z z ?_
   rintro _ _ ⟨rfl,rfl⟩ _
   refine AN z z z ?_
   rintro _ _ ⟨rfl,rfl⟩ _
   refine Ax<|⟨_,z,?_⟩
   refine Bc Tryz.call108 z z (c_S_l8Access a1.1.1 a1.1.2 u1 (g1.now (hC3.keep.then hB5)) x1 hr1) ?_
   rintro v1 w4 ⟨hB4,F1,hv1,hn1,hb1⟩
   exact Ab<|BW hB4 z z hv1 hn1 hb1 (Val.inh hv1)
  refine Aq z ?_ ?_
  ·intro w5 hB5
   refine Ax<|⟨_,z,?_⟩
   exact Al (hC3.grow hB5) 1 z z B9 z z<|Ab<|A3 (Am _ _) z z ⟨z,z⟩
  exact Bl
 intro w6 hB6
 refine Av z z z ?_
 rintro _ _ ⟨rfl,rfl⟩
 refine Av z z z ?_
 rintro _ _ ⟨rfl,rfl⟩
 refine Av z z z fun v1 F1 hv1=>Av z z z<|?_
 rintro _ _ ⟨rfl,rfl⟩
 refine Bv ?_
 intro hn2 hb2
 have hC4:=hC3.pushL hB6 (Bs:=[Ad v1 (x1:(Int × (List Int)))]) (Fs:=[F1]) ⟨F1,_,z,hv1,z⟩ (by simpa using hn2) (fun b h=>(hb2 b (by simpa using h)).1)
 obtain ⟨v3,rfl,hC5⟩:=st82_own hC4
 refine be hF fun x2 hr2 hF=>oe 9 z<|Bc Tryz.call109 z z (c_S_l2Copy a1.2 u2 (g2.now hC5.keep) x2 hr2)<|?_
 rintro v4 w7 ⟨hB7,F2,hv2,hn3,hb3⟩
 have hC6:=hC5.push hB7 (A:=Ad v4 x2) hv2 hn3 hb3
 refine Ab<|tk 10 z z (CY (vs:=[(0,(.agg #[(I x1.1),v3])),(1,v4)]) z z (built84_0_1 z (ro_cells (hC6.ro 0 z))))<|Ck (vs:=[(0,(.agg #[(I x1.1),v3])),(1,v4)]) z z z (built84_0_1 z (ro_cells (hC6.ro 0 z)))<|Ab<|oe 11 z<|AS (cs':=[(I x1.1),v3,v4]) (new:=[(I x1.1),v3,v4]) hC6 2 z z (fac z<|fac (B1 (hC6.ro 1 z))<|fac (B1 (hC6.ro 0 z))<|fa0) z B3 z z fun w9 hC7 hKp1=>?_
 try dsimp only [List.set] at hC7
 have hk1:=AI (((((Ap hB1).then hB2).then hB3).then hB6).then hB7) (AM (Ap hB1).size hN2) hKp1
 have hk2:=AI ((((Ap hB2).then hB3).then hB6).then hB7) hN2 hKp1
 refine Ab<|dn<|Aj<|AC<|?_
 obtain rfl:=Aa hF
 refine Cl z (rv_cell_agg (cs':=[(I x1.1),v3,v4]) hC7 (i:=2) z z z BF B3 z)<|have hC10:=hC7.f1;?_
 have hC8:=CC x1.1 v3 x1.2 v4 x2 hC10
 exact ⟨_,z,B7 hC8 0 z⟩
theorem c_S_Without {w0:World} (a1:(List ((Int × (List Int)) × (List (Int × (List Int)))))) (u1:Value) (g1:RO [] w0 u1 a1) (a2:(List Int)) (u2:Value) (g2:RO [] w0 u2 a2) (rr:(List ((Int × (List Int)) × (List (Int × (List Int)))))) (hF:S.Without a1 a2=some rr) :
 Calls Tryz.prog 23 [u1,u2].toArray w0 fun e w'=>∃v,e=.returned v∧Res w0 rr v w':=by
 refine Aw Tryz.func23 z z ?_
 have hC0:=A1 w0
 unfold S.Without at hF
 refine Ac<|Ae z z<|Ab<|Ac<|A8 (vs:=[]) hC0 AR ty84 z z z z (by simp) z z fun b1 w1 hC1 hB1=>?_
 have hC2:=hC1.row0 (α:=((Int × (List Int)) × (List (Int × (List Int)))))
 have hC3:=hC2.front 1 z
 dsimp only [List.eraseIdx,List.cons_append,List.nil_append,List.append_nil] at hC3
 have hC4:Ctx [] w0 w1 (Ad (.slice (some ⟨b1,0,none⟩) 0 0) (([]:List ((Int × (List Int)) × (List (Int × (List Int))))):List ((Int × (List Int)) × (List (Int × (List Int)))))::[]):=hC3.rowOwn (by simp [maxLen])
 refine Ae z z<|Ab<|A0<|Ac<|Ae z z<|Ab<|be hF fun r1 hr1 hF=>Bf (fun l w=>∃v2:Value,∃x3:(List ((Int × (List Int)) × (List (Int × (List Int))))),x3=r1∧l=[(5,v2)]∧Ctx [] w0 w [Ad v2 (x3:(List ((Int × (List Int)) × (List (Int × (List Int))))))]) ?_ ?_
 ·refine AB<|wS (l':=[(0,u1),(1,u2),(5,(.slice (some ⟨b1,0,none⟩) 0 0)),(6,(I 0))]) ⟨z,z,z,z,Ah⟩<|Bo (fun k l w=>∃v1:Value,∃x1:(List ((Int × (List Int)) × (List (Int × (List Int))))),∃x2:Int,l=[(0,u1),(1,u2),(5,v1),(6,(I x2))]∧Ctx [] w0 w [Ad v1 (x1:(List ((Int × (List Int)) × (List (Int × (List Int))))))]∧S.Without_l1 a1 a2 k x1 x2=some r1) FUEL ⟨(.slice (some ⟨b1,0,none⟩) 0 0),([]:List ((Int × (List Int)) × (List (Int × (List Int))))),0,z,hC4,hr1⟩<|?_
  clear hr1
  rintro k1 _ w2 ⟨v1,x1,x2,rfl,hC5,hL1⟩
  cases k1 with
  | zero=>rw [S.Without_l1] at hL1; cases hL1
  | succ k1 =>
   rw [S.Without_l1] at hL1
   refine A0<|Ac<|Af z z<|Af z z<|AL AR g1 z z<|AW z z z<|Ab<|A7 z (fun hc1=>?_) (fun hc1=>?_)
   ·replace hL1:=A9 hL1 hc1
    refine A6<|Aj<|A0<|AB<|Ac<|Af z z<|Af z z<|be hL1 fun x4 hr2 hL1=>cb Tryz.call61 z z (c_S_l2Has a2 u2 (g2.now hC5.keep) x2 x4 hr2) fun w3 hB3=>have hC6:=hC5.grow hB3;Bw z z<|Ab<|be hL1 fun r2 hr3 hL1=>Bf (fun l w=>∃v3:Value,∃x5:(List ((Int × (List Int)) × (List (Int × (List Int))))),x5=r2∧l=[(0,u1),(1,u2),(5,v3),(6,(I x2))]∧Ctx [] w0 w [Ad v3 (x5:(List ((Int × (List Int)) × (List (Int × (List Int))))))]) ?_ ?_
    ·refine A7 z (fun hc2=>?_) (fun hc2=>?_)
     ·replace hr3:=A9 hr3 hc2
      refine Ac<|Af z z<|Af z z<|be hr3 fun x6 hx1 hr3=>AE AR ty84 g1 hx1 z z z fun b2 o1 h1=>AH ty84 h1 hC6.keep z z fun v4 h2=>?_
      obtain ⟨v5,v6,rfl,h3,h4⟩:=C0 h2
      refine be hr3 fun x7 hr4 hr3=>Bc Tryz.call62 z z (c_S_l29Told x6 v5 (h3.now hC6.keep) v6 (h4.now hC6.keep) x7 hr4)<|?_
      rintro v7 w5 ⟨hB5,F1,hv2,hn1,hb1⟩
      have hC8:=hC6.push hB5 (A:=Ad v7 x7) hv2 hn1 hb1
      obtain ⟨v8,v9,rfl,hC9⟩:=st84_own hC8
      refine B0 hC9 zero84 z z fun b3 w6 hC10 hB6 hN1=>AS (cs':=[(I x7.1.1),v8,v9]) (new:=[(I x7.1.1),v8,v9]) hC10 0 z z (fac z<|fac (B1 (hC10.ro 1 z))<|fac (B1 (hC10.ro 2 z))<|fa0) z B3 z z fun w7 hC11 hKp1=>?_
      try dsimp only [List.set] at hC11
      have hk1:=AI (((Ap hB3).then hB5).then hB6) (AM ((Ap hB3).then hB5).size hN1) hKp1
      have hk2:=AI ((Ap hB5).then hB6) (AM (Ap hB5).size hN1) hKp1
      have hk3:=AI (Ap hB6) hN1 hKp1
      refine Ab<|AX<|Af z z<|A4 [(I x7.1.1),v8,v9] hC11 0 z z z BF B3 z z<|A8 (vs:=[(.agg #[(I x7.1.1),v8,v9])]) hC11 AR ty84 z z z z (fac z<|fa0) z z fun b4 w9 hC12 hB7=>?_
      have hC13:=hC12.row0 (α:=((Int × (List Int)) × (List (Int × (List Int)))))
      have hC15:=hC13.f4
      have hC16:=hC15.f4
      have hC14:=CC x7.1.1 v8 x7.1.2 v9 x7.2 hC16
      have hC17:=hC14.row1
      have hC18:=hC17.front 1 z
      dsimp only [List.eraseIdx,List.cons_append,List.nil_append,List.append_nil] at hC18
      have hC19:Ctx [] w0 w9 (Ad (.slice (some ⟨b4,0,none⟩) 1 1) ([((x7.1.1,x7.1.2),x7.2)]:List ((Int × (List Int)) × (List (Int × (List Int)))))::[Ai b3 [(I x7.1.1),v8,v9],Ad v1 (x1:(List ((Int × (List Int)) × (List (Int × (List Int))))))]):=hC18.rowOwn (by simp [maxLen])
      refine be hr3 fun x8 hx2 hr3=>BA hC19 1 z AR ty84 z hx2 z z z fun v10 w10 hC20=>?_
      try dsimp only [List.set] at hC20
      refine Ae z z<|Ab<|?_
      obtain rfl:=Aa hr3
      have hC22:=hC20.f1
      have hC23:=hC22.h1
      exact An (l':=[(0,u1),(1,u2),(5,v10),(6,(I x2))]) ⟨z,z,z,z,Ah⟩<|⟨v10,x8,z,z,hC23⟩
     replace hr3:=AA hr3 hc2
     refine A6 ?_
     obtain rfl:=Aa hr3
     exact An (l':=[(0,u1),(1,u2),(5,v1),(6,(I x2))]) ⟨z,z,z,z,Ah⟩<|⟨v1,x1,z,z,hC6⟩
    rintro l2 _ w4 hs2 ⟨v3,x5,rfl,rfl,hC7⟩
    try dsimp only at hL1
    refine AJ<|AO hs2<|?_
    clear hs2
    exact AX<|Af z z<|Be z z z<|Ae z z<|Ab<|An (l':=[(0,u1),(1,u2),(5,v3),(6,(I (w64 (x2+1))))]) ⟨z,z,z,z,Ah⟩<|⟨k1,Az _,v3,x5,w64 (x2+1),z,hC7,hL1⟩
   replace hL1:=AA hL1 hc1
   refine Bm (A2 (A2 (AT ?_)))
   obtain rfl:=Aa hL1
   exact An (l':=[(5,v1)]) ⟨z,Ah⟩<|⟨v1,x1,z,z,hC5⟩
 rintro l3 _ w11 hs3 ⟨v2,x3,rfl,rfl,hC24⟩
 try dsimp only at hF
 refine AO hs3 ?_
 clear hs3
 refine Ac<|Af z z<|Ae z z<|Ab<|AC<|?_
 obtain rfl:=Aa hF
 exact Ay z z<|⟨_,z,B7 hC24 0 z⟩
theorem c_S_l15Set {w0:World} (a1:Int) (a2:Int) (rr:(List Int)) (hF:S.l15Set a1 a2=some rr) :
 Calls Tryz.prog 48 [(I a1),(I a2)].toArray w0 fun e w'=>∃v,e=.returned v∧Res w0 rr v w':=by
 refine Aw Tryz.func48 z z ?_
 have hC0:=A1 w0
 unfold S.l15Set at hF
 refine Ac<|Ae z z<|Ab<|Ac<|A8 (vs:=[]) hC0 Ag ty3 z z z z (by simp) z z fun b1 w1 hC1 hB1=>?_
 have hC2:=hC1.row0 (α:=Int)
 have hC3:=hC2.front 1 z
 dsimp only [List.eraseIdx,List.cons_append,List.nil_append,List.append_nil] at hC3
 have hC4:Ctx [] w0 w1 (Ad (.slice (some ⟨b1,0,none⟩) 0 0) (([]:List Int):List Int)::[]):=hC3.rowOwn (by simp [maxLen])
 refine Ae z z<|Ab<|A0<|Ac<|Ae z z<|Ab<|be hF fun r1 hr1 hF=>Bf (fun l w=>∃v2:Value,∃x3:(List Int),x3=r1∧l=[(5,v2)]∧Ctx [] w0 w [Ad v2 (x3:(List Int))]) ?_ ?_
 ·refine AB<|wS (l':=[(0,(I a1)),(1,(I a2)),(5,(.slice (some ⟨b1,0,none⟩) 0 0)),(6,(I 0))]) ⟨z,z,z,z,Ah⟩<|Bo (fun k l w=>∃v1:Value,∃x1:(List Int),∃x2:Int,l=[(0,(I a1)),(1,(I a2)),(5,v1),(6,(I x2))]∧Ctx [] w0 w [Ad v1 (x1:(List Int))]∧S.l15Set_l1 a2 a1 k x1 x2=some r1) FUEL ⟨(.slice (some ⟨b1,0,none⟩) 0 0),([]:List Int),0,z,hC4,hr1⟩<|?_
  clear hr1
  rintro k1 _ w2 ⟨v1,x1,x2,rfl,hC5,hL1⟩
  cases k1 with
  | zero=>rw [S.l15Set_l1] at hL1; cases hL1
  | succ k1 =>
   rw [S.l15Set_l1] at hL1
   refine A0<|Ac<|Af z z<|Af z z<|AW z z z<|Ab<|A7 z (fun hc1=>?_) (fun hc1=>?_)
   ·replace hL1:=A9 hL1 hc1
    refine A6<|Aj<|A0<|AB<|Ac<|Af z z<|Af z z<|be hL1 fun _ hx1 hL1=>WL_shr (nn_some hx1) z z z<|WL_band z z z<|Ca z z z<|Ab<|be hL1 fun r2 hr2 hL1=>Bf (fun l w=>∃v3:Value,∃x4:(List Int),x4=r2∧l=[(0,(I a1)),(1,(I a2)),(5,v3),(6,(I x2))]∧Ctx [] w0 w [Ad v3 (x4:(List Int))]) ?_ ?_
    ·refine A7 z (fun hc2=>?_) (fun hc2=>?_)
     ·replace hr2:=A9 hr2 hc2
      refine AX<|Af z z<|Af z z<|A8 (vs:=[(I x2)]) hC5 Ag ty3 z z z z (fac z<|fa0) z z fun b2 w4 hC7 hB4=>?_
      have hC8:=hC7.row0 (α:=Int)
      have hC9:=hC8.triv (B2 (x2))
      have hC10:=hC9.row1
      have hC11:=hC10.front 1 z
      dsimp only [List.eraseIdx,List.cons_append,List.nil_append,List.append_nil] at hC11
      have hC12:Ctx [] w0 w4 (Ad (.slice (some ⟨b2,0,none⟩) 1 1) ([x2]:List Int)::[Ad v1 (x1:(List Int))]):=hC11.rowOwn (by simp [maxLen])
      refine be hr2 fun x5 hx2 hr2=>Bt (α:=Int) hC12 1 z (hC12.ro 0 z) (AP _ _) Ag ty3 z hx2 z z z fun v4 w5 hC13=>?_
      try dsimp only [List.set] at hC13
      refine Ae z z<|Ab<|?_
      obtain rfl:=Aa hr2
      have hC14:=hC13.f1
      have hC15:=hC14.h1
      exact An (l':=[(0,(I a1)),(1,(I a2)),(5,v4),(6,(I x2))]) ⟨z,z,z,z,Ah⟩<|⟨v4,x5,z,z,hC15⟩
     replace hr2:=AA hr2 hc2
     refine A6 ?_
     obtain rfl:=Aa hr2
     exact An (l':=[(0,(I a1)),(1,(I a2)),(5,v1),(6,(I x2))]) ⟨z,z,z,z,Ah⟩<|⟨v1,x1,z,z,hC5⟩
    rintro l2 _ w3 hs2 ⟨v3,x4,rfl,rfl,hC6⟩
    try dsimp only at hL1
    refine AJ<|AO hs2<|?_
    clear hs2
    exact AX<|Af z z<|Be z z z<|Ae z z<|Ab<|An (l':=[(0,(I a1)),(1,(I a2)),(5,v3),(6,(I (w64 (x2+1))))]) ⟨z,z,z,z,Ah⟩<|⟨k1,Az _,v3,x4,w64 (x2+1),z,hC6,hL1⟩
   replace hL1:=AA hL1 hc1
   refine Bm (A2 (A2 (AT ?_)))
   obtain rfl:=Aa hL1
   exact An (l':=[(5,v1)]) ⟨z,Ah⟩<|⟨v1,x1,z,z,hC5⟩
 rintro l3 _ w6 hs3 ⟨v2,x3,rfl,rfl,hC16⟩
 try dsimp only at hF
 refine AO hs3 ?_
 clear hs3
 refine Ac<|Af z z<|Ae z z<|Ab<|AC<|?_
 obtain rfl:=Aa hF
 exact Ay z z<|⟨_,z,B7 hC16 0 z⟩
theorem c_S_l4Less {w0:World} (a1:(List Int)) (u1:Value) (g1:RO [] w0 u1 a1) (a2:(List Int)) (u2:Value) (g2:RO [] w0 u2 a2) (rr:Bool) (hF:S.l4Less a1 a2=some rr) :
 Calls Tryz.prog 89 [u1,u2].toArray w0 fun e w'=>∃v,e=.returned v∧Res w0 rr v w':=by
 refine Aw Tryz.func89 z z ?_
 have hC0:=A1 w0
 unfold S.l4Less at hF
 refine Ac<|Ae z z<|Ab<|A0<|Ac<|Ae z z<|Ab<|be hF fun r1 hr1 hF=>Bf (fun l w=>.inl ()=r1∧l=[(0,u1),(1,u2)]∧Below w0.heap.size w0 w∧Ctx [] w0 w []) ?_ ?_
 ·refine AB<|wS (l':=[(0,u1),(1,u2),(5,(I 0))]) ⟨z,z,z,Ah⟩<|Bo (fun k l w=>∃x1:Int,l=[(0,u1),(1,u2),(5,(I x1))]∧Below w0.heap.size w0 w∧Ctx [] w0 w []∧S.l4Less_l1 a1 a2 k x1=some r1) FUEL ⟨0,z,(Am _ _),hC0,hr1⟩<|?_
  clear hr1
  rintro k1 _ w1 ⟨x1,rfl,hB1,hC1,hL1⟩
  cases k1 with
  | zero=>rw [S.l4Less_l1] at hL1; cases hL1
  | succ k1 =>
   rw [S.l4Less_l1] at hL1
   refine A0<|be hL1 fun r2 hr2 hL1=>BH (fun l w=>∃x2:Bool,x2=r2∧l=[(0,u1),(1,u2),(5,(I x1)),(15,(.bool x2))]∧Below w1.heap.size w1 w∧Ctx [] w0 w []) ?_ ?_
   ·refine AX<|Af z z<|Af z z<|AL Ag g1 z z<|AW z z z<|Af z z<|Bz (fun hc1=>?_) (fun hc1=>?_)
    ·replace hr2:=A9 hr2 hc1
     refine Ak z z<|Af z z<|Ak z z<|Af z z<|Ak z z<|AL Ag g2 z z<|Ak z z<|AW z z z<|Ba z z z<|Ab<|?_
     obtain rfl:=Aa hr2
     exact An (l':=[(0,u1),(1,u2),(5,(I x1)),(15,(.bool (decide (x1 < (List.length a2:Int)))))]) ⟨z,z,z,z,Ah⟩<|⟨(decide (x1 < (List.length a2:Int))),z,z,(Am _ _),hC1⟩
    replace hr2:=AA hr2 hc1
    refine gs z z z z<|gs z z z z<|gs z z z z<|gs z z z z<|AY z z z<|Ab<|?_
    obtain rfl:=Aa hr2
    exact An (l':=[(0,u1),(1,u2),(5,(I x1)),(15,(.bool false))]) ⟨z,z,z,z,Ah⟩<|⟨false,z,z,(Am _ _),hC1⟩
   rintro _ w2 ⟨x2,rfl,rfl,hB2,hC2⟩
   try dsimp only at hL1
   refine A7 z (fun hc2=>?_) (fun hc2=>?_)
   ·replace hL1:=A9 hL1 hc2
    refine A6<|Aj<|A0<|AB<|A0<|W_drawn 9 z hmix fun w3 hB3=>have hC3:=hC2.grow hB3;tm 0 z z z<|tm 1 z z z<|be hL1 fun x3 hx1 hL1=>tk 2 z z (B8 Ag ty3 g1 hx1 z z)<|AE Ag ty3 g1 hx1 z z z fun b1 o1 h1=>Ab<|tm 4 z z z<|tm 5 z z z<|be hL1 fun x4 hx2 hL1=>tk 6 z z (B8 Ag ty3 g2 hx2 z z)<|AE Ag ty3 g2 hx2 z z z fun b2 o2 h2=>Ab<|wAS (l':=[(0,u1),(1,u2),(5,(I x1)),(15,(.bool x2)),(18,u1),(19,(I x1)),(20,(ptr b1 o1)),(22,u2),(23,(I x1)),(24,(ptr b2 o2))]) ⟨z,z,z,z,z,z,z,z,z,z,Ah⟩<|Bq [⟨3,[],fun vs=>Bg (I x3),[]⟩,⟨7,[],fun vs=>Bg (I x4),[]⟩] [[],[]] 1 z (by kernel_rfl) (by kernel_rfl) z ?_ ?_
    ·refine Aq z ?_ ?_
     ·intro w4 hB4
      refine Ax<|⟨_,z,?_⟩
      refine AH ty3 h1 (hC3.keep.then hB4) z z (fun v1 h3=>?_)
      obtain rfl:=By h3
      exact Ab<|A3 (Am _ _) z z ⟨z,z⟩
     refine Aq z ?_ ?_
     ·intro w4 hB4
      refine Ax<|⟨_,z,?_⟩
      refine AH ty3 h2 (hC3.keep.then hB4) z z (fun v2 h4=>?_)
      obtain rfl:=By h4
      exact Ab<|A3 (Am _ _) z z ⟨z,z⟩
     exact Bl
    intro w5 hB5
    refine Av z z z ?_
    rintro _ _ ⟨rfl,rfl⟩
    refine Av z z z ?_
    rintro _ _ ⟨rfl,rfl⟩
    refine Bv fun hn1 hb1=>have hC4:=hC3.grow hB5;tk 8 z z (CZ z z)<|BI z z z<|Ab<|dn<|Aj<|A7 z (fun hc3=>?_) (fun hc3=>?_)
    ·replace hL1:=A9 hL1 hc3
     refine A0<|W_drawn 10 z hmix fun w6 hB6=>have hC5:=hC4.grow hB6;tm 0 z z z<|tm 1 z z z<|be hL1 fun x5 hx3 hL1=>tk 2 z z (B8 Ag ty3 g1 hx3 z z)<|AE Ag ty3 g1 hx3 z z z fun b3 o3 h5=>Ab<|tm 4 z z z<|tm 5 z z z<|be hL1 fun x6 hx4 hL1=>tk 6 z z (B8 Ag ty3 g2 hx4 z z)<|AE Ag ty3 g2 hx4 z z z fun b4 o4 h6=>Ab<|wAS (l':=[(0,u1),(1,u2),(5,(I x1)),(15,(.bool x2)),(18,u1),(19,(I x1)),(20,(ptr b1 o1)),(21,(I x3)),(22,u2),(23,(I x1)),(24,(ptr b2 o2)),(25,(I x4)),(26,(.bool (!decide (x3=x4)))),(27,u1),(28,(I x1)),(29,(ptr b3 o3)),(31,u2),(32,(I x1)),(33,(ptr b4 o4))]) ⟨z,z,z,z,z,z,z,z,z,z,z,z,z,z,z,z,z,z,z,Ah⟩<|Bq [⟨3,[],fun vs=>Bg (I x5),[]⟩,⟨7,[],fun vs=>Bg (I x6),[]⟩] [[],[]] 2 z (by kernel_rfl) (by kernel_rfl) z ?_ ?_
     ·refine Aq z ?_ ?_
      ·intro w7 hB7
       refine Ax<|⟨_,z,?_⟩
       refine AH ty3 h5 (hC5.keep.then hB7) z z (fun v3 h7=>?_)
       obtain rfl:=By h7
       exact Ab<|A3 (Am _ _) z z ⟨z,z⟩
      refine Aq z ?_ ?_
      ·intro w7 hB7
       refine Ax<|⟨_,z,?_⟩
       refine AH ty3 h6 (hC5.keep.then hB7) z z (fun v4 h8=>?_)
       obtain rfl:=By h8
       exact Ab<|A3 (Am _ _) z z ⟨z,z⟩
      exact Bl
     intro w9 hB8
     refine Av z z z ?_
     rintro _ _ ⟨rfl,rfl⟩
     refine Av z z z ?_
     rintro _ _ ⟨rfl,rfl⟩
     refine Bv fun hn2 hb2=>have hC6:=hC5.grow hB8;tk 8 z z (fl_lss z z)<|AW z z z<|Ab<|ta 9 z z z<|dn<|Aj<|AC<|AU<|Ar<|Ar<|AU<|Ar<|Ar<|?_
     obtain rfl:=Aa hL1
     dsimp only at hF
     obtain rfl:=Aa hF
     exact Ay z z<|⟨_,z,AD hC6 _⟩
    replace hL1:=AA hL1 hc3
    exact A6<|AJ<|Aj<|AX<|Af z z<|Be z z z<|Ae z z<|Ab<|An (l':=[(0,u1),(1,u2),(5,(I (w64 (x1+1))))]) ⟨z,z,z,Ah⟩<|⟨k1,Az _,w64 (x1+1),z,((((Ap hB1).then hB2).then hB3).then hB5).below,hC4,hL1⟩
   replace hL1:=AA hL1 hc2
   refine Bm (A2 (A2 (AT ?_)))
   obtain rfl:=Aa hL1
   exact An (l':=[(0,u1),(1,u2)]) ⟨z,z,Ah⟩<|⟨z,z,((Ap hB1).then hB2).below,hC2⟩
 rintro l3 _ w10 hs3 ⟨rfl,rfl,hB9,hC7⟩
 try dsimp only at hF
 refine AO hs3 ?_
 clear hs3
 refine Ac<|Af z z<|AL Ag g1 z z<|Af z z<|AL Ag g2 z z<|AW z z z<|Ae z z<|Ab<|AC<|?_
 obtain rfl:=Aa hF
 exact Ay z z<|⟨_,z,AD hC7 _⟩
theorem c_S_l15Less {w0:World} (a1:(List Int)) (u1:Value) (g1:RO [] w0 u1 a1) (a2:(List Int)) (u2:Value) (g2:RO [] w0 u2 a2) (rr:Bool) (hF:S.l15Less a1 a2=some rr) :
 Calls Tryz.prog 49 [u1,u2].toArray w0 fun e w'=>∃v,e=.returned v∧Res w0 rr v w':=by
 refine Aw Tryz.func49 z z ?_
 have hC0:=A1 w0
 unfold S.l15Less at hF
 refine Ac<|Ae z z<|Ab<|A0<|Ac<|Af z z<|AL Ag g1 z z<|Af z z<|AL Ag g2 z z<|BI z z z<|Ab<|A7 z (fun hc1=>?_) (fun hc1=>?_)
 ·replace hF:=A9 hF hc1
  refine Ac<|Af z z<|AL Ag g1 z z<|Af z z<|AL Ag g2 z z<|AW z z z<|Ae z z<|Ab<|AC<|Ar<|?_
  obtain rfl:=Aa hF
  exact Ay z z<|⟨_,z,AD hC0 _⟩
 replace hF:=AA hF hc1
 refine A6<|Aj<|Ac<|Af z z<|Af z z<|be hF fun x1 hr1 hF=>cb Tryz.call89 z z (c_S_l4Less a1 u1 (g1.now hC0.keep) a2 u2 (g2.now hC0.keep) x1 hr1) fun w1 hB1=>have hC1:=hC0.grow hB1;Ae z z<|Ab<|AC<|?_
 obtain rfl:=Aa hF
 exact Ay z z<|⟨_,z,AD hC1 _⟩
theorem c_S_SmallestRemoval {w0:World} (a1:(List Int)) (u1:Value) (g1:RO [] w0 u1 a1) (a2:(List (Int × (List Int) × Int × Int × Int))) (u2:Value) (g2:RO [] w0 u2 a2) (a3:(List ((Int × (List Int)) × (List (Int × (List Int)))))) (u3:Value) (g3:RO [] w0 u3 a3) (rr:((List Int) × Bool)) (hF:S.SmallestRemoval a1 a2 a3=some rr) :
 Calls Tryz.prog 8 [u1,u2,u3].toArray w0 fun e w'=>∃v,e=.returned v∧Res2 w0 rr.1 rr.2 v w':=by
 refine Aw Tryz.func8 z z ?_
 have hC0:=A1 w0
 unfold S.SmallestRemoval at hF
 refine Ac<|Ae z z<|Ae z z<|Ab<|Ac<|A8 (vs:=[]) hC0 Ag ty3 z z z z (by simp) z z fun b1 w1 hC1 hB1=>?_
 have hC2:=hC1.row0 (α:=Int)
 have hC3:=hC2.front 1 z
 dsimp only [List.eraseIdx,List.cons_append,List.nil_append,List.append_nil] at hC3
 have hC4:Ctx [] w0 w1 (Ad (.slice (some ⟨b1,0,none⟩) 0 0) (([]:List Int):List Int)::[]):=hC3.rowOwn (by simp [maxLen])
 refine Ae z z<|Ab<|Ac<|Ae z z<|Ab<|A0<|be hF fun r1 hr1 hF=>BH (fun l w=>∃x1:Bool,x1=r1∧l=[(0,u1),(1,u2),(2,u3),(8,(.slice (some ⟨b1,0,none⟩) 0 0)),(9,(.bool false)),(21,(.bool x1))]∧Below w1.heap.size w1 w∧Ctx [] w0 w [Ad (.slice (some ⟨b1,0,none⟩) 0 0) (([]:List Int):(List Int))]) ?_ ?_
 ·refine AX<|Af z z<|Af z z<|be hr1 fun x2 hr2 hr1=>cb Tryz.call47 z z (c_S_AreMethods a1 u1 (g1.now hC4.keep) a2 u2 (g2.now hC4.keep) x2 hr2) fun w3 hB3=>have hC6:=hC4.grow hB3;Bw z z<|Af z z<|Bz (fun hc1=>?_) (fun hc1=>?_)
  ·replace hr1:=A9 hr1 hc1
   refine gs z z z z<|gs z z z z<|gs z z z z<|Ba z z z<|Ab<|?_
   obtain rfl:=Aa hr1
   exact An (l':=[(0,u1),(1,u2),(2,u3),(8,(.slice (some ⟨b1,0,none⟩) 0 0)),(9,(.bool false)),(21,(.bool true))]) ⟨z,z,z,z,z,z,Ah⟩<|⟨true,z,z,(Ap hB3).below,hC6⟩
  replace hr1:=AA hr1 hc1
  refine Ak z z<|Af z z<|Ak z z<|AL AR g3 z z<|Ak z z<|C1 z z z<|AY z z z<|Ab<|?_
  obtain rfl:=Aa hr1
  exact An (l':=[(0,u1),(1,u2),(2,u3),(8,(.slice (some ⟨b1,0,none⟩) 0 0)),(9,(.bool false)),(21,(.bool (decide (8 < (List.length a3:Int)))))]) ⟨z,z,z,z,z,z,Ah⟩<|⟨(decide (8 < (List.length a3:Int))),z,z,(Ap hB3).below,hC6⟩
 rintro _ w2 ⟨x1,rfl,rfl,hB2,hC5⟩
 try dsimp only at hF
 refine A7 z (fun hc2=>?_) (fun hc2=>?_)
 ·replace hF:=A9 hF hc2
  refine Ac<|Af z z<|Ae z z<|Ae z z<|Ab<|AC<|Ar<|?_
  obtain rfl:=Aa hF
  refine Dx z z z ?_
  have hC7:=hC5.triv (BU (false))
  have hC8:=hC7.f1
  exact ⟨_,z,res2_of hC8⟩
 replace hF:=AA hF hc2
 refine A6<|Aj<|A0<|Ac<|Ae z z<|Ab<|be hF fun r2 hr3 hF=>Bf (fun l w=>∃v2:Value,∃x6:(List Int),∃x7:Bool,(x6,x7)=r2∧l=[(8,v2),(9,(.bool x7))]∧Below w2.heap.size w2 w∧Ctx [] w0 w [Ad v2 (x6:(List Int))]) ?_ ?_
 ·refine AB<|wS (l':=[(0,u1),(1,u2),(2,u3),(8,(.slice (some ⟨b1,0,none⟩) 0 0)),(9,(.bool false)),(10,(I 0))]) ⟨z,z,z,z,z,z,Ah⟩<|Bo (fun k l w=>∃v1:Value,∃x3:(List Int),∃x4:Bool,∃x5:Int,l=[(0,u1),(1,u2),(2,u3),(8,v1),(9,(.bool x4)),(10,(I x5))]∧Below w2.heap.size w2 w∧Ctx [] w0 w [Ad v1 (x3:(List Int))]∧S.SmallestRemoval_l1 a3 a1 a2 k x3 x4 x5=some r2) FUEL ⟨(.slice (some ⟨b1,0,none⟩) 0 0),([]:List Int),false,0,z,(Am _ _),hC5,hr3⟩<|?_
  clear hr3
  rintro k1 _ w4 ⟨v1,x3,x4,x5,rfl,hB4,hC9,hL1⟩
  cases k1 with
  | zero=>rw [S.SmallestRemoval_l1] at hL1; cases hL1
  | succ k1 =>
   rw [S.SmallestRemoval_l1] at hL1
   refine A0<|Ac<|Af z z<|Af z z<|AL AR g3 z z<|be hL1 fun _ hx1 hL1=>WL_shl (nn_some hx1) z z z<|AW z z z<|Ab<|A7 z (fun hc3=>?_) (fun hc3=>?_)
   ·replace hL1:=A9 hL1 hc3
    refine A6<|Aj<|A0<|AB<|Ac<|Af z z<|Af z z<|AL AR g3 z z<|be hL1 fun x8 hr4 hL1=>Bc Tryz.call48 z z (c_S_l15Set x5 (List.length a3:Int) x8 hr4)<|?_
    rintro v3 w5 ⟨hB5,F1,hv2,hn1,hb1⟩
    have hC10:=hC9.push hB5 (A:=Ad v3 x8) hv2 hn1 hb1
    refine Ae z z<|Ab<|A0<|be hL1 fun r3 hr5 hL1=>BH (fun l w=>∃x9:Bool,x9=r3∧l=[(0,u1),(1,u2),(2,u3),(8,v1),(9,(.bool x4)),(10,(I x5)),(11,v3),(40,(.bool x9))]∧Below w5.heap.size w5 w∧Ctx [] w0 w [Ad v3 (x8:(List Int)),Ad v1 (x3:(List Int))]) ?_ ?_
    ·refine AX<|Af z z<|Af z z<|Bz (fun hc4=>?_) (fun hc4=>?_)
     ·replace hr5:=A9 hr5 hc4
      refine Ak z z<|Af z z<|Ak z z<|Af z z<|be hr5 fun x10 hr6 hr5=>Ak z z<|cb Tryz.call49 z z (c_S_l15Less x8 v3 ((hC10.ro 0 z).now (AP _ _)) x3 v1 ((hC10.ro 1 z).now (AP _ _)) x10 hr6) fun w7 hB7=>have hC12:=hC10.grow hB7;Ak z z<|Bw z z<|Ba z z z<|Ab<|?_
      obtain rfl:=Aa hr5
      exact An (l':=[(0,u1),(1,u2),(2,u3),(8,v1),(9,(.bool x4)),(10,(I x5)),(11,v3),(40,(.bool (!x10)))]) ⟨z,z,z,z,z,z,z,z,Ah⟩<|⟨(!x10),z,z,(Ap hB7).below,hC12⟩
     replace hr5:=AA hr5 hc4
     refine gs z z z z<|gs z z z z<|gs z z z z<|gs z z z z<|AY z z z<|Ab<|?_
     obtain rfl:=Aa hr5
     exact An (l':=[(0,u1),(1,u2),(2,u3),(8,v1),(9,(.bool x4)),(10,(I x5)),(11,v3),(40,(.bool false))]) ⟨z,z,z,z,z,z,z,z,Ah⟩<|⟨false,z,z,(Am _ _),hC10⟩
    rintro _ w6 ⟨x9,rfl,rfl,hB6,hC11⟩
    try dsimp only at hL1
    refine A7 z (fun hc5=>?_) (fun hc5=>?_)
    ·replace hL1:=A9 hL1 hc5
     exact Bm<|A2<|AT<|Aj<|AX<|Af z z<|Be z z z<|Ae z z<|Ab<|have hC13:=hC11.f1;have hC14:=hC13.h1;An (l':=[(0,u1),(1,u2),(2,u3),(8,v1),(9,(.bool x4)),(10,(I (w64 (x5+1))))]) ⟨z,z,z,z,z,z,Ah⟩<|⟨k1,Az _,v1,x3,x4,w64 (x5+1),z,(((Ap hB4).then hB5).then hB6).below,hC14,hL1⟩
    replace hL1:=AA hL1 hc5
    refine A6<|Aj<|Ac<|Af z z<|Af z z<|Af z z<|Af z z<|be hL1 fun x11 hr7 hL1=>Bc Tryz.call23 z z (c_S_Without a3 u3 (g3.now hC11.keep) x8 v3 ((hC11.ro 0 z).now (AP _ _)) x11 hr7)<|?_
    rintro v4 w9 ⟨hB8,F2,hv4,hn2,hb2⟩
    have hC15:=hC11.push hB8 (A:=Ad v4 x11) hv4 hn2 hb2
    refine be hL1 fun x12 hr8 hL1=>cb Tryz.call21 z z (c_S_IsConsistent a1 u1 (g1.now hC15.keep) a2 u2 (g2.now hC15.keep) x11 v4 ((hC15.ro 0 z).now (AP _ _)) x12 hr8) fun w10 hB9=>have hC16:=hC15.grow hB9;Ab<|be hL1 fun r4 hr9 hL1=>Bf (fun l w=>∃v5:Value,∃x13:(List Int),∃x14:Bool,(x13,x14)=r4∧l=[(0,u1),(1,u2),(2,u3),(8,v5),(9,(.bool x14)),(10,(I x5))]∧Below w10.heap.size w10 w∧Ctx [] w0 w [Ad v5 (x13:(List Int))]) ?_ ?_
    ·refine A7 z (fun hc6=>?_) (fun hc6=>?_)
     ·replace hr9:=A9 hr9 hc6
      refine Ac<|Af z z<|Ae z z<|Ab<|AX<|Ae z z<|Ab<|?_
      obtain rfl:=Aa hr9
      have hC18:=hC16.f1
      have hC19:=hC18.h1
      exact An (l':=[(0,u1),(1,u2),(2,u3),(8,v3),(9,(.bool true)),(10,(I x5))]) ⟨z,z,z,z,z,z,Ah⟩<|⟨v3,x8,true,z,z,(Am _ _),hC19⟩
     replace hr9:=AA hr9 hc6
     refine A6 ?_
     obtain rfl:=Aa hr9
     have hC20:=hC16.f2
     have hC21:=hC20.h1
     exact An (l':=[(0,u1),(1,u2),(2,u3),(8,v1),(9,(.bool x4)),(10,(I x5))]) ⟨z,z,z,z,z,z,Ah⟩<|⟨v1,x3,x4,z,z,(Am _ _),hC21⟩
    rintro l4 _ w11 hs4 ⟨v5,x13,x14,rfl,rfl,hB10,hC17⟩
    try dsimp only at hL1
    refine AJ<|AO hs4<|?_
    clear hs4
    exact AX<|Af z z<|Be z z z<|Ae z z<|Ab<|An (l':=[(0,u1),(1,u2),(2,u3),(8,v5),(9,(.bool x14)),(10,(I (w64 (x5+1))))]) ⟨z,z,z,z,z,z,Ah⟩<|⟨k1,Az _,v5,x13,x14,w64 (x5+1),z,((((((Ap hB4).then hB5).then hB6).then hB8).then hB9).then hB10).below,hC17,hL1⟩
   replace hL1:=AA hL1 hc3
   refine Bm (A2 (A2 (AT ?_)))
   obtain rfl:=Aa hL1
   exact An (l':=[(8,v1),(9,(.bool x4))]) ⟨z,z,Ah⟩<|⟨v1,x3,x4,z,z,(Ap hB4).below,hC9⟩
 rintro l5 _ w12 hs5 ⟨v2,x6,x7,rfl,rfl,hB11,hC22⟩
 try dsimp only at hF
 refine AO hs5 ?_
 clear hs5
 refine Ac<|Af z z<|Af z z<|Ae z z<|Ae z z<|Ab<|AC<|?_
 obtain rfl:=Aa hF
 refine Dx z z z ?_
 have hC23:=hC22.triv (BU (x7))
 have hC24:=hC23.f1
 exact ⟨_,z,res2_of hC24⟩
theorem c_S_l2Ints {w0:World} (a1:(List Int)) (u1:Value) (g1:RO [] w0 u1 a1) (a2:(List Int)) (u2:Value) (g2:RO [] w0 u2 a2) (rr:Bool) (hF:S.l2Ints a1 a2=some rr) :
 Calls Tryz.prog 51 [u1,u2].toArray w0 fun e w'=>∃v,e=.returned v∧Res w0 rr v w':=by
 refine Aw Tryz.func51 z z ?_
 have hC0:=A1 w0
 unfold S.l2Ints at hF
 refine Ac<|Ae z z<|Ab<|A0<|Ac<|Af z z<|AL Ag g1 z z<|Af z z<|AL Ag g2 z z<|BI z z z<|Ab<|A7 z (fun hc1=>?_) (fun hc1=>?_)
 ·replace hF:=A9 hF hc1
  refine Ac<|Ae z z<|Ab<|AC<|Ar<|?_
  obtain rfl:=Aa hF
  exact Ay z z<|⟨_,z,AD hC0 _⟩
 replace hF:=AA hF hc1
 refine A6<|Aj<|A0<|Ac<|Ae z z<|Ab<|be hF fun r1 hr1 hF=>Bf (fun l w=>.inl ()=r1∧l=[]∧Below w0.heap.size w0 w∧Ctx [] w0 w []) ?_ ?_
 ·refine AB<|wS (l':=[(0,u1),(1,u2),(5,(I 0))]) ⟨z,z,z,Ah⟩<|Bo (fun k l w=>∃x1:Int,l=[(0,u1),(1,u2),(5,(I x1))]∧Below w0.heap.size w0 w∧Ctx [] w0 w []∧S.l2Ints_l1 a1 a2 k x1=some r1) FUEL ⟨0,z,(Am _ _),hC0,hr1⟩<|?_
  clear hr1
  rintro k1 _ w1 ⟨x1,rfl,hB1,hC1,hL1⟩
  cases k1 with
  | zero=>rw [S.l2Ints_l1] at hL1; cases hL1
  | succ k1 =>
   rw [S.l2Ints_l1] at hL1
   refine A0<|Ac<|Af z z<|Af z z<|AL Ag g1 z z<|AW z z z<|Ab<|A7 z (fun hc2=>?_) (fun hc2=>?_)
   ·replace hL1:=A9 hL1 hc2
    refine A6<|Aj<|A0<|AB<|A0<|W_drawn 9 z hmix fun w2 hB2=>have hC2:=hC1.grow hB2;tm 0 z z z<|tm 1 z z z<|be hL1 fun x2 hx1 hL1=>tk 2 z z (B8 Ag ty3 g1 hx1 z z)<|AE Ag ty3 g1 hx1 z z z fun b1 o1 h1=>Ab<|tm 4 z z z<|tm 5 z z z<|be hL1 fun x3 hx2 hL1=>tk 6 z z (B8 Ag ty3 g2 hx2 z z)<|AE Ag ty3 g2 hx2 z z z fun b2 o2 h2=>Ab<|wAS (l':=[(0,u1),(1,u2),(5,(I x1)),(11,(I x1)),(12,u1),(13,(I (List.length a1:Int))),(14,(.bool (decide (x1 < (List.length a1:Int))))),(17,u1),(18,(I x1)),(19,(ptr b1 o1)),(21,u2),(22,(I x1)),(23,(ptr b2 o2))]) ⟨z,z,z,z,z,z,z,z,z,z,z,z,z,Ah⟩<|Bq [⟨3,[],fun vs=>Bg (I x2),[]⟩,⟨7,[],fun vs=>Bg (I x3),[]⟩] [[],[]] 1 z (by kernel_rfl) (by kernel_rfl) z ?_ ?_
    ·refine Aq z ?_ ?_
     ·intro w3 hB3
      refine Ax<|⟨_,z,?_⟩
      refine AH ty3 h1 (hC2.keep.then hB3) z z (fun v1 h3=>?_)
      obtain rfl:=By h3
      exact Ab<|A3 (Am _ _) z z ⟨z,z⟩
     refine Aq z ?_ ?_
     ·intro w3 hB3
      refine Ax<|⟨_,z,?_⟩
      refine AH ty3 h2 (hC2.keep.then hB3) z z (fun v2 h4=>?_)
      obtain rfl:=By h4
      exact Ab<|A3 (Am _ _) z z ⟨z,z⟩
     exact Bl
    intro w4 hB4
    refine Av z z z ?_
    rintro _ _ ⟨rfl,rfl⟩
    refine Av z z z ?_
    rintro _ _ ⟨rfl,rfl⟩
    refine Bv fun hn1 hb1=>have hC3:=hC2.grow hB4;tk 8 z z (CZ z z)<|BI z z z<|Ab<|dn<|Aj<|A7 z (fun hc3=>?_) (fun hc3=>?_)
    ·replace hL1:=A9 hL1 hc3
     refine Ac<|Ae z z<|Ab<|AC<|AU<|Ar<|Ar<|AU<|Ar<|Ar<|?_
     obtain rfl:=Aa hL1
     dsimp only at hF
     obtain rfl:=Aa hF
     exact Ay z z<|⟨_,z,AD hC3 _⟩
    replace hL1:=AA hL1 hc3
    exact A6<|AJ<|Aj<|AX<|Af z z<|Be z z z<|Ae z z<|Ab<|An (l':=[(0,u1),(1,u2),(5,(I (w64 (x1+1))))]) ⟨z,z,z,Ah⟩<|⟨k1,Az _,w64 (x1+1),z,(((Ap hB1).then hB2).then hB4).below,hC3,hL1⟩
   replace hL1:=AA hL1 hc2
   refine Bm (A2 (A2 (AT ?_)))
   obtain rfl:=Aa hL1
   exact An (l':=[]) Ah<|⟨z,z,(Ap hB1).below,hC1⟩
 rintro l2 _ w5 hs2 ⟨rfl,rfl,hB5,hC4⟩
 try dsimp only at hF
 refine AO hs2 ?_
 clear hs2
 refine Ac<|Ae z z<|Ab<|AC<|?_
 obtain rfl:=Aa hF
 exact Ay z z<|⟨_,z,AD hC4 _⟩
theorem c_S_AddTuple {w0:World} (a1:(List (List Int))) (u1:Value) (g1:RO [] w0 u1 a1) (a2:(List Int)) (u2:Value) (g2:RO [] w0 u2 a2) (rr:(List (List Int))) (hF:S.AddTuple a1 a2=some rr) :
 Calls Tryz.prog 50 [u1,u2].toArray w0 fun e w'=>∃v,e=.returned v∧Res w0 rr v w':=by
 refine Aw Tryz.func50 z z ?_
 have hC0:=A1 w0
 unfold S.AddTuple at hF
 refine Ac<|Ae z z<|Ab<|Ac<|A8 (vs:=[]) hC0 AG ty24 z z z z (by simp) z z fun b1 w1 hC1 hB1=>?_
 have hC2:=hC1.row0 (α:=(List Int))
 have hC3:=hC2.front 1 z
 dsimp only [List.eraseIdx,List.cons_append,List.nil_append,List.append_nil] at hC3
 have hC4:Ctx [] w0 w1 (Ad (.slice (some ⟨b1,0,none⟩) 0 0) (([]:List (List Int)):List (List Int))::[]):=hC3.rowOwn (by simp [maxLen])
 refine Ae z z<|Ab<|Ac<|Ae z z<|Ab<|A0<|Ac<|Ae z z<|Ab<|be hF fun r1 hr1 hF=>Bf (fun l w=>∃x3:Bool,x3=r1∧l=[(0,u1),(1,u2),(5,(.slice (some ⟨b1,0,none⟩) 0 0)),(6,(.bool x3))]∧Below w1.heap.size w1 w∧Ctx [] w0 w [Ad (.slice (some ⟨b1,0,none⟩) 0 0) (([]:List (List Int)):(List (List Int)))]) ?_ ?_
 ·refine AB<|wS (l':=[(0,u1),(1,u2),(5,(.slice (some ⟨b1,0,none⟩) 0 0)),(6,(.bool false)),(7,(I 0))]) ⟨z,z,z,z,z,Ah⟩<|Bo (fun k l w=>∃x1:Bool,∃x2:Int,l=[(0,u1),(1,u2),(5,(.slice (some ⟨b1,0,none⟩) 0 0)),(6,(.bool x1)),(7,(I x2))]∧Below w1.heap.size w1 w∧Ctx [] w0 w [Ad (.slice (some ⟨b1,0,none⟩) 0 0) (([]:List (List Int)):(List (List Int)))]∧S.AddTuple_l1 a1 a2 k x1 x2=some r1) FUEL ⟨false,0,z,(Am _ _),hC4,hr1⟩<|?_
  clear hr1
  rintro k1 _ w2 ⟨x1,x2,rfl,hB2,hC5,hL1⟩
  cases k1 with
  | zero=>rw [S.AddTuple_l1] at hL1; cases hL1
  | succ k1 =>
   rw [S.AddTuple_l1] at hL1
   refine A0<|Ac<|Af z z<|Af z z<|AL AG g1 z z<|AW z z z<|Ab<|A7 z (fun hc1=>?_) (fun hc1=>?_)
   ·replace hL1:=A9 hL1 hc1
    refine A6<|Aj<|A0<|AB<|be hL1 fun r2 hr2 hL1=>Bf (fun l w=>∃x4:Bool,x4=r2∧l=[(0,u1),(1,u2),(5,(.slice (some ⟨b1,0,none⟩) 0 0)),(6,(.bool x4)),(7,(I x2))]∧Below w2.heap.size w2 w∧Ctx [] w0 w [Ad (.slice (some ⟨b1,0,none⟩) 0 0) (([]:List (List Int)):(List (List Int)))]) ?_ ?_
    ·refine AX<|Af z z<|Af z z<|Bz (fun hc2=>?_) (fun hc2=>?_)
     ·replace hr2:=A9 hr2 hc2
      refine gs z z z z<|gs z z z z<|gs z z z z<|gs z z z z<|gs z z z z<|gs z z z z<|Ba z z z<|Ae z z<|Ab<|?_
      obtain rfl:=Aa hr2
      exact An (l':=[(0,u1),(1,u2),(5,(.slice (some ⟨b1,0,none⟩) 0 0)),(6,(.bool true)),(7,(I x2))]) ⟨z,z,z,z,z,Ah⟩<|⟨true,z,z,(Am _ _),hC5⟩
     replace hr2:=AA hr2 hc2
     refine Ak z z<|Af z z<|Ak z z<|Af z z<|be hr2 fun x5 hx1 hr2=>Ak z z<|AE AG ty24 g1 hx1 z z z fun b2 o1 h1=>Ak z z<|AH ty24 h1 hC5.keep z z fun v1 h2=>Ak z z<|Af z z<|be hr2 fun x6 hr3 hr2=>Ak z z<|cb Tryz.call51 z z (c_S_l2Ints x5 v1 (h2.now hC5.keep) a2 u2 (g2.now hC5.keep) x6 hr3) fun w4 hB4=>have hC7:=hC5.grow hB4;AY z z z<|Ae z z<|Ab<|?_
     obtain rfl:=Aa hr2
     exact An (l':=[(0,u1),(1,u2),(5,(.slice (some ⟨b1,0,none⟩) 0 0)),(6,(.bool x6)),(7,(I x2))]) ⟨z,z,z,z,z,Ah⟩<|⟨x6,z,z,(Ap hB4).below,hC7⟩
    rintro l2 _ w3 hs2 ⟨x4,rfl,rfl,hB3,hC6⟩
    try dsimp only at hL1
    refine AJ<|AO hs2<|?_
    clear hs2
    exact AX<|Af z z<|Be z z z<|Ae z z<|Ab<|An (l':=[(0,u1),(1,u2),(5,(.slice (some ⟨b1,0,none⟩) 0 0)),(6,(.bool x4)),(7,(I (w64 (x2+1))))]) ⟨z,z,z,z,z,Ah⟩<|⟨k1,Az _,x4,w64 (x2+1),z,((Ap hB2).then hB3).below,hC6,hL1⟩
   replace hL1:=AA hL1 hc1
   refine Bm (A2 (A2 (AT ?_)))
   obtain rfl:=Aa hL1
   exact An (l':=[(0,u1),(1,u2),(5,(.slice (some ⟨b1,0,none⟩) 0 0)),(6,(.bool x1))]) ⟨z,z,z,z,Ah⟩<|⟨x1,z,z,(Ap hB2).below,hC5⟩
 rintro l3 _ w5 hs3 ⟨x3,rfl,rfl,hB5,hC8⟩
 try dsimp only at hF
 refine AO hs3 ?_
 clear hs3
 refine A0<|Ac<|Ae z z<|Ab<|be hF fun r3 hr4 hF=>Bf (fun l w=>∃v3:Value,∃x10:(List (List Int)),∃x11:Bool,(x10,x11)=r3∧l=[(1,u2),(5,v3),(6,(.bool x11))]∧Ctx [] w0 w [Ad v3 (x10:(List (List Int)))]) ?_ ?_
 ·refine AB<|wS (l':=[(0,u1),(1,u2),(5,(.slice (some ⟨b1,0,none⟩) 0 0)),(6,(.bool x3)),(8,(I 0))]) ⟨z,z,z,z,z,Ah⟩<|Bo (fun k l w=>∃v2:Value,∃x7:(List (List Int)),∃x8:Bool,∃x9:Int,l=[(0,u1),(1,u2),(5,v2),(6,(.bool x8)),(8,(I x9))]∧Ctx [] w0 w [Ad v2 (x7:(List (List Int)))]∧S.AddTuple_l2 a1 a2 k x7 x8 x9=some r3) FUEL ⟨(.slice (some ⟨b1,0,none⟩) 0 0),([]:List (List Int)),x3,0,z,hC8,hr4⟩<|?_
  clear hr4
  rintro k2 _ w6 ⟨v2,x7,x8,x9,rfl,hC9,hL2⟩
  cases k2 with
  | zero=>rw [S.AddTuple_l2] at hL2; cases hL2
  | succ k2 =>
   rw [S.AddTuple_l2] at hL2
   refine A0<|Ac<|Af z z<|Af z z<|AL AG g1 z z<|AW z z z<|Ab<|A7 z (fun hc3=>?_) (fun hc3=>?_)
   ·replace hL2:=A9 hL2 hc3
    refine A6<|Aj<|A0<|AB<|A0<|be hL2 fun r4 hr5 hL2=>BH (fun l w=>∃x12:Bool,x12=r4∧l=[(0,u1),(1,u2),(5,v2),(6,(.bool x8)),(8,(I x9)),(40,(.bool x12))]∧Below w6.heap.size w6 w∧Ctx [] w0 w [Ad v2 (x7:(List (List Int)))]) ?_ ?_
    ·refine AX<|Af z z<|Bw z z<|Af z z<|Bz (fun hc4=>?_) (fun hc4=>?_)
     ·replace hr5:=A9 hr5 hc4
      refine Ak z z<|Af z z<|Ak z z<|Af z z<|Ak z z<|Af z z<|be hr5 fun x13 hx2 hr5=>Ak z z<|AE AG ty24 g1 hx2 z z z fun b3 o2 h3=>Ak z z<|AH ty24 h3 hC9.keep z z fun v4 h4=>be hr5 fun x14 hr6 hr5=>Ak z z<|cb Tryz.call89 z z (c_S_l4Less a2 u2 (g2.now hC9.keep) x13 v4 (h4.now hC9.keep) x14 hr6) fun w9 hB8=>have hC11:=hC9.grow hB8;Ba z z z<|Ab<|?_
      obtain rfl:=Aa hr5
      exact An (l':=[(0,u1),(1,u2),(5,v2),(6,(.bool x8)),(8,(I x9)),(40,(.bool x14))]) ⟨z,z,z,z,z,z,Ah⟩<|⟨x14,z,z,(Ap hB8).below,hC11⟩
     replace hr5:=AA hr5 hc4
     refine gs z z z z<|gs z z z z<|gs z z z z<|gs z z z z<|gs z z z z<|gs z z z z<|AY z z z<|Ab<|?_
     obtain rfl:=Aa hr5
     exact An (l':=[(0,u1),(1,u2),(5,v2),(6,(.bool x8)),(8,(I x9)),(40,(.bool false))]) ⟨z,z,z,z,z,z,Ah⟩<|⟨false,z,z,(Am _ _),hC9⟩
    rintro _ w7 ⟨x12,rfl,rfl,hB7,hC10⟩
    try dsimp only at hL2
    refine be hL2 fun r5 hr7 hL2=>Bf (fun l w=>∃v5:Value,∃x15:(List (List Int)),∃x16:Bool,(x15,x16)=r5∧l=[(0,u1),(1,u2),(5,v5),(6,(.bool x16)),(8,(I x9))]∧Ctx [] w0 w [Ad v5 (x15:(List (List Int)))]) ?_ ?_
    ·refine A7 z (fun hc5=>?_) (fun hc5=>?_)
     ·replace hr7:=A9 hr7 hc5
      refine Ac<|Af z z<|A8 (vs:=[]) hC10 Ag ty3 z z z z (by simp) z z fun b4 w11 hC13 hB10=>?_
      have hC14:=hC13.row0 (α:=Int)
      have hC15:=hC14.front 1 z
      dsimp only [List.eraseIdx,List.cons_append,List.nil_append,List.append_nil] at hC15
      have hC16:Ctx [] w0 w11 (Ad (.slice (some ⟨b4,0,none⟩) 0 0) (([]:List Int):List Int)::[Ad v2 (x7:(List (List Int)))]):=hC15.rowOwn (by simp [maxLen])
      refine Af z z<|be hr7 fun x17 hx3 hr7=>Bt (α:=Int) hC16 0 z g2 hC16.keep Ag ty3 z hx3 z z z fun v6 w12 hC17=>?_
      try dsimp only [List.set] at hC17
      refine A8 (vs:=[v6]) hC17 AG ty24 z z z z (by intro v hv; simp only [List.mem_cons,List.not_mem_nil,or_false] at hv; rcases hv with rfl; exact (by rw [ro_cells (hC17.ro 0 z)]; rfl)) (by simp only [List.flatMap_cons,List.flatMap_nil,ro_cells (hC17.ro 0 z)]; rfl) z (fun b5 w13 hC18 hB11=>?_)
      have hC19:=hC18.row0 (α:=(List Int))
      have hC20:=hC19.f2
      have hz1:=ro_cells (hC20.ro 0 z)
      have hC21:=hC20.row1
      rw [hz1] at hC21
      have hC22:=hC21.front 1 z
      dsimp only [List.eraseIdx,List.cons_append,List.nil_append,List.append_nil] at hC22
      have hC23:Ctx [] w0 w13 (Ad (.slice (some ⟨b5,0,none⟩) 1 1) ([x17]:List (List Int))::[Ad v2 (x7:(List (List Int)))]):=hC22.rowOwn (by simp [maxLen])
      refine be hr7 fun x18 hx4 hr7=>BA hC23 0 z AG ty24 z hx4 z z z fun v7 w14 hC24=>?_
      try dsimp only [List.set] at hC24
      refine Ae z z<|Ab<|AX<|Ae z z<|Ab<|?_
      obtain rfl:=Aa hr7
      exact An (l':=[(0,u1),(1,u2),(5,v7),(6,(.bool true)),(8,(I x9))]) ⟨z,z,z,z,z,Ah⟩<|⟨v7,x18,true,z,z,hC24⟩
     replace hr7:=AA hr7 hc5
     refine A6 ?_
     obtain rfl:=Aa hr7
     exact An (l':=[(0,u1),(1,u2),(5,v2),(6,(.bool x8)),(8,(I x9))]) ⟨z,z,z,z,z,Ah⟩<|⟨v2,x7,x8,z,z,hC10⟩
    rintro l6 _ w10 hs6 ⟨v5,x15,x16,rfl,rfl,hC12⟩
    try dsimp only at hL2
    refine AO hs6 ?_
    clear hs6
    refine AX<|Af z z<|A8 (vs:=[]) hC12 Ag ty3 z z z z (by simp) z z fun b6 w15 hC26 hB12=>?_
    have hC27:=hC26.row0 (α:=Int)
    have hC28:=hC27.front 1 z
    dsimp only [List.eraseIdx,List.cons_append,List.nil_append,List.append_nil] at hC28
    have hC29:Ctx [] w0 w15 (Ad (.slice (some ⟨b6,0,none⟩) 0 0) (([]:List Int):List Int)::[Ad v5 (x15:(List (List Int)))]):=hC28.rowOwn (by simp [maxLen])
    refine Af z z<|Af z z<|be hL2 fun x19 hx5 hL2=>AE AG ty24 g1 hx5 z z z fun b7 o3 h5=>AH ty24 h5 hC29.keep z z fun v8 h6=>be hL2 fun x20 hx6 hL2=>Bt (α:=Int) hC29 0 z h6 hC29.keep Ag ty3 z hx6 z z z fun v9 w16 hC30=>?_
    try dsimp only [List.set] at hC30
    refine A8 (vs:=[v9]) hC30 AG ty24 z z z z (by intro v hv; simp only [List.mem_cons,List.not_mem_nil,or_false] at hv; rcases hv with rfl; exact (by rw [ro_cells (hC30.ro 0 z)]; rfl)) (by simp only [List.flatMap_cons,List.flatMap_nil,ro_cells (hC30.ro 0 z)]; rfl) z (fun b8 w17 hC31 hB13=>?_)
    have hC32:=hC31.row0 (α:=(List Int))
    have hC33:=hC32.f2
    have hz2:=ro_cells (hC33.ro 0 z)
    have hC34:=hC33.row1
    rw [hz2] at hC34
    have hC35:=hC34.front 1 z
    dsimp only [List.eraseIdx,List.cons_append,List.nil_append,List.append_nil] at hC35
    have hC36:Ctx [] w0 w17 (Ad (.slice (some ⟨b8,0,none⟩) 1 1) ([x20]:List (List Int))::[Ad v5 (x15:(List (List Int)))]):=hC35.rowOwn (by simp [maxLen])
    refine be hL2 fun x21 hx7 hL2=>BA hC36 0 z AG ty24 z hx7 z z z fun v10 w18 hC37=>?_
    try dsimp only [List.set] at hC37
    exact Ae z z<|Ab<|AJ<|Aj<|AX<|Af z z<|Be z z z<|Ae z z<|Ab<|An (l':=[(0,u1),(1,u2),(5,v10),(6,(.bool x16)),(8,(I (w64 (x9+1))))]) ⟨z,z,z,z,z,Ah⟩<|⟨k2,Az _,v10,x21,x16,w64 (x9+1),z,hC37,hL2⟩
   replace hL2:=AA hL2 hc3
   refine Bm (A2 (A2 (AT ?_)))
   obtain rfl:=Aa hL2
   exact An (l':=[(1,u2),(5,v2),(6,(.bool x8))]) ⟨z,z,z,Ah⟩<|⟨v2,x7,x8,z,z,hC9⟩
 rintro l7 _ w19 hs7 ⟨v3,x10,x11,rfl,rfl,hC39⟩
 try dsimp only at hF
 refine AO hs7 ?_
 clear hs7
 refine A0<|Ac<|Af z z<|Bw z z<|Ab<|be hF fun r6 hr8 hF=>Bf (fun l w=>∃v11:Value,∃x22:(List (List Int)),x22=r6∧l=[(5,v11)]∧Ctx [] w0 w [Ad v11 (x22:(List (List Int)))]) ?_ ?_
 ·refine A7 z (fun hc6=>?_) (fun hc6=>?_)
  ·replace hr8:=A9 hr8 hc6
   refine AX<|Af z z<|A8 (vs:=[]) hC39 Ag ty3 z z z z (by simp) z z fun b9 w21 hC41 hB16=>?_
   have hC42:=hC41.row0 (α:=Int)
   have hC43:=hC42.front 1 z
   dsimp only [List.eraseIdx,List.cons_append,List.nil_append,List.append_nil] at hC43
   have hC44:Ctx [] w0 w21 (Ad (.slice (some ⟨b9,0,none⟩) 0 0) (([]:List Int):List Int)::[Ad v3 (x10:(List (List Int)))]):=hC43.rowOwn (by simp [maxLen])
   refine Af z z<|be hr8 fun x23 hx8 hr8=>Bt (α:=Int) hC44 0 z g2 hC44.keep Ag ty3 z hx8 z z z fun v12 w22 hC45=>?_
   try dsimp only [List.set] at hC45
   refine A8 (vs:=[v12]) hC45 AG ty24 z z z z (by intro v hv; simp only [List.mem_cons,List.not_mem_nil,or_false] at hv; rcases hv with rfl; exact (by rw [ro_cells (hC45.ro 0 z)]; rfl)) (by simp only [List.flatMap_cons,List.flatMap_nil,ro_cells (hC45.ro 0 z)]; rfl) z (fun b10 w23 hC46 hB17=>?_)
   have hC47:=hC46.row0 (α:=(List Int))
   have hC48:=hC47.f2
   have hz3:=ro_cells (hC48.ro 0 z)
   have hC49:=hC48.row1
   rw [hz3] at hC49
   have hC50:=hC49.front 1 z
   dsimp only [List.eraseIdx,List.cons_append,List.nil_append,List.append_nil] at hC50
   have hC51:Ctx [] w0 w23 (Ad (.slice (some ⟨b10,0,none⟩) 1 1) ([x23]:List (List Int))::[Ad v3 (x10:(List (List Int)))]):=hC50.rowOwn (by simp [maxLen])
   refine be hr8 fun x24 hx9 hr8=>BA hC51 0 z AG ty24 z hx9 z z z fun v13 w24 hC52=>?_
   try dsimp only [List.set] at hC52
   refine Ae z z<|Ab<|?_
   obtain rfl:=Aa hr8
   exact An (l':=[(5,v13)]) ⟨z,Ah⟩<|⟨v13,x24,z,z,hC52⟩
  replace hr8:=AA hr8 hc6
  refine A6 ?_
  obtain rfl:=Aa hr8
  exact An (l':=[(5,v3)]) ⟨z,Ah⟩<|⟨v3,x10,z,z,hC39⟩
 rintro l8 _ w20 hs8 ⟨v11,x22,rfl,rfl,hC40⟩
 try dsimp only at hF
 refine AO hs8 ?_
 clear hs8
 refine Ac<|Af z z<|Ae z z<|Ab<|AC<|?_
 obtain rfl:=Aa hF
 exact Ay z z<|⟨_,z,B7 hC40 0 z⟩
theorem c_S_AllRemovals {w0:World} (a1:(List Int)) (u1:Value) (g1:RO [] w0 u1 a1) (a2:(List (Int × (List Int) × Int × Int × Int))) (u2:Value) (g2:RO [] w0 u2 a2) (a3:(List ((Int × (List Int)) × (List (Int × (List Int)))))) (u3:Value) (g3:RO [] w0 u3 a3) (rr:(List (List Int))) (hF:S.AllRemovals a1 a2 a3=some rr) :
 Calls Tryz.prog 10 [u1,u2,u3].toArray w0 fun e w'=>∃v,e=.returned v∧Res w0 rr v w':=by
 refine Aw Tryz.func10 z z ?_
 have hC0:=A1 w0
 unfold S.AllRemovals at hF
 refine Ac<|Ae z z<|Ab<|Ac<|A8 (vs:=[]) hC0 AG ty24 z z z z (by simp) z z fun b1 w1 hC1 hB1=>?_
 have hC2:=hC1.row0 (α:=(List Int))
 have hC3:=hC2.front 1 z
 dsimp only [List.eraseIdx,List.cons_append,List.nil_append,List.append_nil] at hC3
 have hC4:Ctx [] w0 w1 (Ad (.slice (some ⟨b1,0,none⟩) 0 0) (([]:List (List Int)):List (List Int))::[]):=hC3.rowOwn (by simp [maxLen])
 refine Ae z z<|Ab<|Ac<|Af z z<|Af z z<|Af z z<|be hF fun x1 hr1 hF=>Bc Tryz.call8 z z (c_S_SmallestRemoval a1 u1 (g1.now hC4.keep) a2 u2 (g2.now hC4.keep) a3 u3 (g3.now hC4.keep) x1 hr1)<|?_
 rintro _ w2 ⟨hB2,v1,v2,F1,F2,rfl,hv1,hv2,hn1,hb1⟩
 obtain ⟨rfl,rfl⟩:=val_bool hv2
 have hC5:=hC4.pushL hB2 (Bs:=[Ad v1 x1.1]) (Fs:=[F1]) ⟨F1,_,z,hv1,z⟩ (by simpa using hn1) (fun b h=>hb1 b (by simpa using h))
 refine Af z z<|BJ z z z<|BJ z z z<|Ae z z<|Ae z z<|Ab<|A0<|Ac<|Ae z z<|Ab<|be hF fun r1 hr2 hF=>Bf (fun l w=>∃v4:Value,∃x4:(List (List Int)),x4=r1∧l=[(7,v4)]∧Below w2.heap.size w2 w∧Ctx [] w0 w [Ad v4 (x4:(List (List Int)))]) ?_ ?_
 ·refine AB<|wS (l':=[(0,u1),(1,u2),(2,u3),(7,(.slice (some ⟨b1,0,none⟩) 0 0)),(8,v1),(9,(.bool x1.2)),(10,(I 0))]) ⟨z,z,z,z,z,z,z,Ah⟩<|Bo (fun k l w=>∃v3:Value,∃x2:(List (List Int)),∃x3:Int,l=[(0,u1),(1,u2),(2,u3),(7,v3),(8,v1),(9,(.bool x1.2)),(10,(I x3))]∧Below w2.heap.size w2 w∧Ctx [] w0 w [Ad v1 (x1.1:(List Int)),Ad v3 (x2:(List (List Int)))]∧S.AllRemovals_l1 a3 x1 a1 a2 k x2 x3=some r1) FUEL ⟨(.slice (some ⟨b1,0,none⟩) 0 0),([]:List (List Int)),0,z,(Am _ _),hC5,hr2⟩<|?_
  clear hr2
  rintro k1 _ w3 ⟨v3,x2,x3,rfl,hB3,hC6,hL1⟩
  cases k1 with
  | zero=>rw [S.AllRemovals_l1] at hL1; cases hL1
  | succ k1 =>
   rw [S.AllRemovals_l1] at hL1
   refine A0<|be hL1 fun r2 hr3 hL1=>BH (fun l w=>∃x5:Bool,x5=r2∧l=[(0,u1),(1,u2),(2,u3),(7,v3),(8,v1),(9,(.bool x1.2)),(10,(I x3)),(27,(.bool x5))]∧Below w3.heap.size w3 w∧Ctx [] w0 w [Ad v1 (x1.1:(List Int)),Ad v3 (x2:(List (List Int)))]) ?_ ?_
   ·refine AX<|Af z z<|Af z z<|AL AR g3 z z<|be hr3 fun _ hx1 hr3=>WL_shl (nn_some hx1) z z z<|AW z z z<|Af z z<|Bz (fun hc1=>?_) (fun hc1=>?_)
    ·replace hr3:=A9 hr3 hc1
     refine Ak z z<|Af z z<|Ba z z z<|Ab<|?_
     obtain rfl:=Aa hr3
     exact An (l':=[(0,u1),(1,u2),(2,u3),(7,v3),(8,v1),(9,(.bool x1.2)),(10,(I x3)),(27,(.bool x1.2))]) ⟨z,z,z,z,z,z,z,z,Ah⟩<|⟨x1.2,z,z,(Am _ _),hC6⟩
    replace hr3:=AA hr3 hc1
    refine gs z z z z<|AY z z z<|Ab<|?_
    obtain rfl:=Aa hr3
    exact An (l':=[(0,u1),(1,u2),(2,u3),(7,v3),(8,v1),(9,(.bool x1.2)),(10,(I x3)),(27,(.bool false))]) ⟨z,z,z,z,z,z,z,z,Ah⟩<|⟨false,z,z,(Am _ _),hC6⟩
   rintro _ w4 ⟨x5,rfl,rfl,hB4,hC7⟩
   try dsimp only at hL1
   refine A7 z (fun hc2=>?_) (fun hc2=>?_)
   ·replace hL1:=A9 hL1 hc2
    refine A6<|Aj<|A0<|AB<|Ac<|Af z z<|Af z z<|AL AR g3 z z<|be hL1 fun x6 hr4 hL1=>Bc Tryz.call48 z z (c_S_l15Set x3 (List.length a3:Int) x6 hr4)<|?_
    rintro v5 w5 ⟨hB5,F3,hv3,hn2,hb2⟩
    have hC8:=hC7.push hB5 (A:=Ad v5 x6) hv3 hn2 hb2
    refine Ae z z<|Ab<|be hL1 fun r3 hr5 hL1=>BH (fun l w=>∃x7:Bool,x7=r3∧l=[(0,u1),(1,u2),(2,u3),(7,v3),(8,v1),(9,(.bool x1.2)),(10,(I x3)),(11,v5),(46,(.bool x7))]∧Below w5.heap.size w5 w∧Ctx [] w0 w [Ad v5 (x6:(List Int)),Ad v1 (x1.1:(List Int)),Ad v3 (x2:(List (List Int)))]) ?_ ?_
    ·refine AX<|Af z z<|AL Ag (hC8.ro 0 z) z z<|Af z z<|AL Ag (hC8.ro 1 z) z z<|Ca z z z<|Af z z<|Bz (fun hc3=>?_) (fun hc3=>?_)
     ·replace hr5:=A9 hr5 hc3
      refine Ak z z<|Af z z<|Ak z z<|Af z z<|Ak z z<|Af z z<|Ak z z<|Af z z<|be hr5 fun x8 hr6 hr5=>Ak z z<|Bc Tryz.call23 z z (c_S_Without a3 u3 (g3.now hC8.keep) x6 v5 ((hC8.ro 0 z).now (AP _ _)) x8 hr6)<|?_
      rintro v6 w7 ⟨hB7,F4,hv4,hn3,hb3⟩
      have hC10:=hC8.push hB7 (A:=Ad v6 x8) hv4 hn3 hb3
      refine be hr5 fun x9 hr7 hr5=>Ak z z<|cb Tryz.call21 z z (c_S_IsConsistent a1 u1 (g1.now hC10.keep) a2 u2 (g2.now hC10.keep) x8 v6 ((hC10.ro 0 z).now (AP _ _)) x9 hr7) fun w9 hB8=>have hC11:=hC10.grow hB8;Ba z z z<|Ab<|?_
      obtain rfl:=Aa hr5
      have hC12:=hC11.f3
      have hC13:=hC12.f3
      have hC14:=hC13.f3
      have hC15:=hC14.h3
      exact An (l':=[(0,u1),(1,u2),(2,u3),(7,v3),(8,v1),(9,(.bool x1.2)),(10,(I x3)),(11,v5),(46,(.bool x9))]) ⟨z,z,z,z,z,z,z,z,z,Ah⟩<|⟨x9,z,z,((Ap hB7).then hB8).below,hC15⟩
     replace hr5:=AA hr5 hc3
     refine gs z z z z<|gs z z z z<|gs z z z z<|gs z z z z<|gs z z z z<|gs z z z z<|AY z z z<|Ab<|?_
     obtain rfl:=Aa hr5
     exact An (l':=[(0,u1),(1,u2),(2,u3),(7,v3),(8,v1),(9,(.bool x1.2)),(10,(I x3)),(11,v5),(46,(.bool false))]) ⟨z,z,z,z,z,z,z,z,z,Ah⟩<|⟨false,z,z,(Am _ _),hC8⟩
    rintro _ w6 ⟨x7,rfl,rfl,hB6,hC9⟩
    try dsimp only at hL1
    refine be hL1 fun r4 hr8 hL1=>Bf (fun l w=>∃v7:Value,∃x10:(List (List Int)),x10=r4∧l=[(0,u1),(1,u2),(2,u3),(7,v7),(8,v1),(9,(.bool x1.2)),(10,(I x3))]∧Below w6.heap.size w6 w∧Ctx [] w0 w [Ad v1 (x1.1:(List Int)),Ad v7 (x10:(List (List Int)))]) ?_ ?_
    ·refine A7 z (fun hc4=>?_) (fun hc4=>?_)
     ·replace hr8:=A9 hr8 hc4
      refine AX<|Af z z<|Af z z<|be hr8 fun x11 hr9 hr8=>Bc Tryz.call50 z z (c_S_AddTuple x2 v3 ((hC9.ro 2 z).now (AP _ _)) x6 v5 ((hC9.ro 0 z).now (AP _ _)) x11 hr9)<|?_
      rintro v8 w11 ⟨hB10,F5,hv6,hn4,hb4⟩
      have hC17:=hC9.push hB10 (A:=Ad v8 x11) hv6 hn4 hb4
      refine Ae z z<|Ab<|?_
      obtain rfl:=Aa hr8
      have hC18:=hC17.f2
      have hC19:=hC18.h2
      exact An (l':=[(0,u1),(1,u2),(2,u3),(7,v8),(8,v1),(9,(.bool x1.2)),(10,(I x3))]) ⟨z,z,z,z,z,z,z,Ah⟩<|⟨v8,x11,z,z,(Ap hB10).below,hC19⟩
     replace hr8:=AA hr8 hc4
     refine A6 ?_
     obtain rfl:=Aa hr8
     have hC20:=hC9.f2
     have hC21:=hC20.f2
     have hC22:=hC21.h2
     exact An (l':=[(0,u1),(1,u2),(2,u3),(7,v3),(8,v1),(9,(.bool x1.2)),(10,(I x3))]) ⟨z,z,z,z,z,z,z,Ah⟩<|⟨v3,x2,z,z,(Am _ _),hC22⟩
    rintro l4 _ w10 hs4 ⟨v7,x10,rfl,rfl,hB9,hC16⟩
    try dsimp only at hL1
    refine AJ<|AO hs4<|?_
    clear hs4
    exact AX<|Af z z<|Be z z z<|Ae z z<|Ab<|An (l':=[(0,u1),(1,u2),(2,u3),(7,v7),(8,v1),(9,(.bool x1.2)),(10,(I (w64 (x3+1))))]) ⟨z,z,z,z,z,z,z,Ah⟩<|⟨k1,Az _,v7,x10,w64 (x3+1),z,(((((Ap hB3).then hB4).then hB5).then hB6).then hB9).below,hC16,hL1⟩
   replace hL1:=AA hL1 hc2
   refine Bm (A2 (A2 (AT ?_)))
   obtain rfl:=Aa hL1
   have hC23:=hC7.f1
   have hC24:=hC23.h1
   exact An (l':=[(7,v3)]) ⟨z,Ah⟩<|⟨v3,x2,z,z,((Ap hB3).then hB4).below,hC24⟩
 rintro l5 _ w12 hs5 ⟨v4,x4,rfl,rfl,hB11,hC25⟩
 try dsimp only at hF
 refine AO hs5 ?_
 clear hs5
 refine Ac<|Af z z<|Ae z z<|Ab<|AC<|?_
 obtain rfl:=Aa hF
 exact Ay z z<|⟨_,z,B7 hC25 0 z⟩
theorem c_S_AddFact {w0:World} (a1:(List (Int × (List Int)))) (u1:Value) (g1:RO [] w0 u1 a1) (a2:(Int × (List Int))) (u2:Value) (g2:RO [] w0 u2 a2.2) (rr:(List (Int × (List Int)))) (hF:S.AddFact a1 a2=some rr) :
 Calls Tryz.prog 59 [u1,(.agg #[(I a2.1),u2])].toArray w0 fun e w'=>∃v,e=.returned v∧Res w0 rr v w':=by
 refine Aw Tryz.func59 z z ?_
 have hC0:=A1 w0
 unfold S.AddFact at hF
 refine Ac<|Bb (cs:=[(I a2.1),u2]) hC0 z z z fun b1 w1 hC1 hB1 hN1=>Ae z z<|Ab<|Ac<|A8 (vs:=[]) hC1 Ao ty77 z z z z (by simp) z z fun b2 w2 hC2 hB2=>?_
 have hC3:=hC2.row0 (α:=(Int × (List Int)))
 have hC4:=hC3.front 1 z
 dsimp only [List.eraseIdx,List.cons_append,List.nil_append,List.append_nil] at hC4
 have hC5:Ctx [] w0 w2 (Ad (.slice (some ⟨b2,0,none⟩) 0 0) (([]:List (Int × (List Int))):List (Int × (List Int)))::[Ai b1 [(I a2.1),u2]]):=hC4.rowOwn (by simp [maxLen])
 refine Ae z z<|Ab<|Ac<|Af z z<|A4 [(I a2.1),u2] hC5 1 z z z B4 Br z z<|be hF fun x1 hr1 hF=>cb Tryz.call54 z z (c_S_HasFact a1 u1 (g1.now hC5.keep) (a2.1,a2.2) u2 (g2.now hC5.keep) x1 hr1) fun w3 hB3=>have hC6:=hC5.grow hB3;Ae z z<|Ab<|A0<|Ac<|Ae z z<|Ab<|be hF fun r1 hr2 hF=>Bf (fun l w=>∃v2:Value,∃x5:(List (Int × (List Int))),∃x6:Bool,(x5,x6)=r1∧l=[(3,(ptr b1 0)),(5,v2),(6,(.bool x6))]∧Ctx [] w0 w [Ad v2 (x5:(List (Int × (List Int)))),Ai b1 [(I a2.1),u2]]) ?_ ?_
 ·refine AB<|wS (l':=[(0,u1),(3,(ptr b1 0)),(5,(.slice (some ⟨b2,0,none⟩) 0 0)),(6,(.bool x1)),(7,(I 0))]) ⟨z,z,z,z,z,Ah⟩<|Bo (fun k l w=>∃v1:Value,∃x2:(List (Int × (List Int))),∃x3:Bool,∃x4:Int,l=[(0,u1),(3,(ptr b1 0)),(5,v1),(6,(.bool x3)),(7,(I x4))]∧Ctx [] w0 w [Ad v1 (x2:(List (Int × (List Int)))),Ai b1 [(I a2.1),u2]]∧S.AddFact_l1 a1 a2 k x2 x3 x4=some r1) FUEL ⟨(.slice (some ⟨b2,0,none⟩) 0 0),([]:List (Int × (List Int))),x1,0,z,hC6,hr2⟩<|?_
  clear hr2
  rintro k1 _ w4 ⟨v1,x2,x3,x4,rfl,hC7,hL1⟩
  cases k1 with
  | zero=>rw [S.AddFact_l1] at hL1; cases hL1
  | succ k1 =>
   rw [S.AddFact_l1] at hL1
   refine A0<|Ac<|Af z z<|Af z z<|AL Ao g1 z z<|AW z z z<|Ab<|A7 z (fun hc1=>?_) (fun hc1=>?_)
   ·replace hL1:=A9 hL1 hc1
    refine A6<|Aj<|A0<|AB<|A0<|be hL1 fun r2 hr3 hL1=>BH (fun l w=>∃x7:Bool,x7=r2∧l=[(0,u1),(3,(ptr b1 0)),(5,v1),(6,(.bool x3)),(7,(I x4)),(28,(.bool x7))]∧Below w4.heap.size w4 w∧Ctx [] w0 w [Ad v1 (x2:(List (Int × (List Int)))),Ai b1 [(I a2.1),u2]]) ?_ ?_
    ·refine W_drawn 11 z hmix fun w6 hB6=>have hC9:=hC7.grow hB6;tm 0 z z z<|tk 1 z z (Cs z)<|Bw z z<|Ab<|tm 2 z z z<|BP (fun hc2=>?_) (fun hc2=>?_)
     ·replace hr3:=A9 hr3 hc2
      refine tn 4 z z z z z<|tn 5 z z z z z<|be hr3 fun x8 hx1 hr3=>tg 6 z z z z (B8 Ao ty77 g1 hx1 z z)<|Ak z z<|AE Ao ty77 g1 hx1 z z z fun b3 o1 h1=>Ab<|wAS (l':=[(0,u1),(3,(ptr b1 0)),(5,v1),(6,(.bool x3)),(7,(I x4)),(12,(I x4)),(13,u1),(14,(I (List.length a1:Int))),(15,(.bool (decide (x4 < (List.length a1:Int))))),(18,(.bool x3)),(19,(.bool (!x3))),(20,(.bool true)),(22,u1),(23,(I x4)),(24,(ptr b3 o1))]) ⟨z,z,z,z,z,z,z,z,z,z,z,z,z,z,z,Ah⟩<|Bq [⟨3,[],fun vs=>Bg (.agg #[(I a2.1),u2]),[]⟩,⟨7,[],fun vs=>Cc [] w0 x8,[]⟩] [[],[]] 3 z (by kernel_rfl) (by kernel_rfl) z ?_ ?_
      ·refine Aq z ?_ ?_
       ·intro w7 hB7
        refine Ax<|⟨_,z,?_⟩
        exact Ak z z<|A4 [(I a2.1),u2] (hC9.grow hB7) 1 z z z B4 Br z z<|Ab<|A3 (Am _ _) z z ⟨z,z⟩
       refine Aq z ?_ ?_
       ·intro w7 hB7
        refine Ax<|⟨_,z,?_⟩
        exact Ak z z<|AH ty77 h1 (hC9.keep.then hB7) z z fun v5 h4=>Ab<|A3 (Am _ _) z z ⟨z,h4⟩
       exact Bl
      intro w9 hB8
      refine Av z z z ?_
      rintro _ _ ⟨rfl,rfl⟩
      refine Av z z z ?_
      rintro v5 _ ⟨rfl,h4⟩
      obtain ⟨v4,rfl,h3⟩:=BM h4
      refine Bv fun hn1 hb1=>have hC10:=hC9.grow hB8;be hr3 fun x9 hr4 hr3=>oe 8 z<|Ak z z<|ci Tryz.call53 z z (c_S_CompareFacts (a2.1,a2.2) u2 (g2.now hC10.keep) x8 v4 (h3.now hC10.keep) x9 hr4) fun w10 hB9=>have hC11:=hC10.grow hB9;Ab<|tg 9 z z z z (fl_lss z z)<|Ak z z<|AW z z z<|Ab<|tp 10 z z z z<|dn<|?_
      obtain rfl:=Aa hr3
      exact An (l':=[(0,u1),(3,(ptr b1 0)),(5,v1),(6,(.bool x3)),(7,(I x4)),(28,(.bool (decide (x9 < 0))))]) ⟨z,z,z,z,z,z,Ah⟩<|⟨(decide (x9 < 0)),z,z,(((Ap hB6).then hB8).then hB9).below,hC11⟩
     replace hr3:=AA hr3 hc2
     refine sk 3 z z z z z<|sk 4 z z z z z<|sk 5 z z z z z<|sk 6 z z z z z<|sk 7 z z z z z<|sk 8 z z z z z<|sk 9 z z z z z<|tq 10 z z z z<|dn<|?_
     obtain rfl:=Aa hr3
     exact An (l':=[(0,u1),(3,(ptr b1 0)),(5,v1),(6,(.bool x3)),(7,(I x4)),(28,(.bool false))]) ⟨z,z,z,z,z,z,Ah⟩<|⟨false,z,z,(Ap hB6).below,hC9⟩
    rintro _ w5 ⟨x7,rfl,rfl,hB5,hC8⟩
    try dsimp only at hL1
    refine be hL1 fun r3 hr5 hL1=>Bf (fun l w=>∃v6:Value,∃x10:(List (Int × (List Int))),∃x11:Bool,(x10,x11)=r3∧l=[(0,u1),(3,(ptr b1 0)),(5,v6),(6,(.bool x11)),(7,(I x4))]∧Ctx [] w0 w [Ad v6 (x10:(List (Int × (List Int)))),Ai b1 [(I a2.1),u2]]) ?_ ?_
    ·refine A7 z (fun hc3=>?_) (fun hc3=>?_)
     ·replace hr5:=A9 hr5 hc3
      refine Ac<|Af z z<|fd AF A5 z z z z<|Al hC8 1 z z AV z z<|fd AF Au z z z z<|Al hC8 1 z z At z z<|be hr5 fun x12 hr6 hr5=>Bc Dh z z (c_S_l2One a2.1 a2.2 u2 (g2.now hC8.keep) x12 hr6)<|?_
      rintro v7 w12 ⟨hB11,F1,hv3,hn2,hb2⟩
      have hC13:=hC8.push hB11 (A:=Ad v7 x12) hv3 hn2 hb2
      obtain ⟨v8,rfl,hC14⟩:=st77_own hC13
      refine A8 (vs:=[(.agg #[(I x12.1),v8])]) hC14 Ao ty77 z z z z (fac z<|fa0) z z (fun b4 w13 hC15 hB12=>?_)
      have hC16:=hC15.row0 (α:=(Int × (List Int)))
      have hC18:=hC16.f2
      have hC17:=Cm x12.1 v8 x12.2 hC18
      have hC19:=hC17.row1
      have hC20:=hC19.front 1 z
      dsimp only [List.eraseIdx,List.cons_append,List.nil_append,List.append_nil] at hC20
      have hC21:Ctx [] w0 w13 (Ad (.slice (some ⟨b4,0,none⟩) 1 1) ([(x12.1,x12.2)]:List (Int × (List Int)))::[Ad v1 (x2:(List (Int × (List Int)))),Ai b1 [(I a2.1),u2]]):=hC20.rowOwn (by simp [maxLen])
      refine be hr5 fun x13 hx2 hr5=>BA hC21 0 z Ao ty77 z hx2 z z z fun v9 w14 hC22=>?_
      try dsimp only [List.set] at hC22
      refine Ae z z<|Ab<|AX<|Ae z z<|Ab<|?_
      obtain rfl:=Aa hr5
      exact An (l':=[(0,u1),(3,(ptr b1 0)),(5,v9),(6,(.bool true)),(7,(I x4))]) ⟨z,z,z,z,z,Ah⟩<|⟨v9,x13,true,z,z,hC22⟩
     replace hr5:=AA hr5 hc3
     refine A6 ?_
     obtain rfl:=Aa hr5
     exact An (l':=[(0,u1),(3,(ptr b1 0)),(5,v1),(6,(.bool x3)),(7,(I x4))]) ⟨z,z,z,z,z,Ah⟩<|⟨v1,x2,x3,z,z,hC8⟩
    rintro l3 _ w11 hs3 ⟨v6,x10,x11,rfl,rfl,hC12⟩
    try dsimp only at hL1
    refine AO hs3 ?_
    clear hs3
    refine W_drawn 15 z hmix fun w15 hB13=>have hC24:=hC12.grow hB13;tm 0 z z z<|tm 1 z z z<|tm 2 z z z<|be hL1 fun x14 hx3 hL1=>tk 3 z z (B8 Ao ty77 g1 hx3 z z)<|AE Ao ty77 g1 hx3 z z z fun b5 o2 h5=>Ab<|tf 4 AF A5 z z z z z<|tm 6 z z z<|tm 7 z z z<|be hL1 fun x15 hx4 hL1=>tk 8 z z (B8 Ao ty77 g1 hx4 z z)<|AE Ao ty77 g1 hx4 z z z fun b6 o3 h6=>Ab<|tf 9 AF Au z z z z z<|wAS (l':=[(0,u1),(3,(ptr b1 0)),(5,v6),(6,(.bool x11)),(7,(I x4)),(37,v6),(38,u1),(39,(I x4)),(40,(ptr b5 o2)),(41,(ptr b5 (o2+0))),(43,u1),(44,(I x4)),(45,(ptr b6 o3)),(46,(ptr b6 (o3+1)))]) ⟨z,z,z,z,z,z,z,z,z,z,z,z,z,z,Ah⟩<|Bq [⟨5,[],fun vs=>Bg (I x14.1),[]⟩,⟨10,[],fun vs=>Cc [] w0 x15.2,[]⟩] [[],[]] 4 z (by kernel_rfl) (by kernel_rfl) z ?_ ?_
    ·refine Aq z ?_ ?_
     ·intro w16 hB14
      refine Ax<|⟨_,z,?_⟩
      refine AH ty3 h5.fst (hC24.keep.then hB14) z z (fun v10 h7=>?_)
      obtain rfl:=By h7
      exact Ab<|A3 (Am _ _) z z ⟨z,z⟩
     refine Aq z ?_ ?_
     ·intro w16 hB14
      refine Ax<|⟨_,z,?_⟩
      exact AH ty24 h6.snd (hC24.keep.then hB14) z z fun v11 h8=>Ab<|A3 (Am _ _) z z ⟨z,h8⟩
     exact Bl
    intro w17 hB15
    refine Av z z z ?_
    rintro _ _ ⟨rfl,rfl⟩
    refine Av z z z ?_
    rintro v11 _ ⟨rfl,h8⟩
    refine Bv fun hn3 hb3=>have hC25:=hC24.grow hB15;be hL1 fun x16 hr7 hL1=>oe 11 z<|Bc Dh z z (c_S_l2One x14.1 x15.2 v11 (h8.now hC25.keep) x16 hr7)<|?_
    rintro v12 w18 ⟨hB16,F2,hv4,hn4,hb4⟩
    have hC26:=hC25.push hB16 (A:=Ad v12 x16) hv4 hn4 hb4
    obtain ⟨v13,rfl,hC27⟩:=st77_own hC26
    refine Ab<|oe 12 z<|A8 (vs:=[(.agg #[(I x16.1),v13])]) hC27 Ao ty77 z z z z (fac z<|fa0) z z fun b7 w19 hC28 hB17=>?_
    have hC29:=hC28.row0 (α:=(Int × (List Int)))
    have hC31:=hC29.f2
    have hC30:=Cm x16.1 v13 x16.2 hC31
    have hC32:=hC30.row1
    have hC33:=hC32.front 1 z
    dsimp only [List.eraseIdx,List.cons_append,List.nil_append,List.append_nil] at hC33
    have hC34:Ctx [] w0 w19 (Ad (.slice (some ⟨b7,0,none⟩) 1 1) ([(x16.1,x16.2)]:List (Int × (List Int)))::[Ad v6 (x10:(List (Int × (List Int)))),Ai b1 [(I a2.1),u2]]):=hC33.rowOwn (by simp [maxLen])
    refine Ab<|be hL1 fun x17 hx5 hL1=>oe 13 z<|BA hC34 0 z Ao ty77 z hx5 z z z fun v14 w20 hC35=>?_
    try dsimp only [List.set] at hC35
    exact Ab<|ta 14 z z z<|dn<|AJ<|Aj<|AX<|Af z z<|Be z z z<|Ae z z<|Ab<|An (l':=[(0,u1),(3,(ptr b1 0)),(5,v14),(6,(.bool x11)),(7,(I (w64 (x4+1))))]) ⟨z,z,z,z,z,Ah⟩<|⟨k1,Az _,v14,x17,x11,w64 (x4+1),z,hC35,hL1⟩
   replace hL1:=AA hL1 hc1
   refine Bm (A2 (A2 (AT ?_)))
   obtain rfl:=Aa hL1
   exact An (l':=[(3,(ptr b1 0)),(5,v1),(6,(.bool x3))]) ⟨z,z,z,Ah⟩<|⟨v1,x2,x3,z,z,hC7⟩
 rintro l4 _ w21 hs4 ⟨v2,x5,x6,rfl,rfl,hC37⟩
 try dsimp only at hF
 refine AO hs4 ?_
 clear hs4
 refine A0<|Ac<|Af z z<|Bw z z<|Ab<|be hF fun r4 hr8 hF=>Bf (fun l w=>∃v15:Value,∃x18:(List (Int × (List Int))),x18=r4∧l=[(5,v15)]∧Ctx [] w0 w [Ad v15 (x18:(List (Int × (List Int))))]) ?_ ?_
 ·refine A7 z (fun hc4=>?_) (fun hc4=>?_)
  ·replace hr8:=A9 hr8 hc4
   refine AX<|Af z z<|fd AF A5 z z z z<|Al hC37 1 z z AV z z<|fd AF Au z z z z<|Al hC37 1 z z At z z<|be hr8 fun x19 hr9 hr8=>Bc Dh z z (c_S_l2One a2.1 a2.2 u2 (g2.now hC37.keep) x19 hr9)<|?_
   rintro v16 w23 ⟨hB20,F3,hv5,hn5,hb5⟩
   have hC39:=hC37.push hB20 (A:=Ad v16 x19) hv5 hn5 hb5
   obtain ⟨v17,rfl,hC40⟩:=st77_own hC39
   refine A8 (vs:=[(.agg #[(I x19.1),v17])]) hC40 Ao ty77 z z z z (fac z<|fa0) z z (fun b8 w24 hC41 hB21=>?_)
   have hC42:=hC41.row0 (α:=(Int × (List Int)))
   have hC44:=hC42.f2
   have hC43:=Cm x19.1 v17 x19.2 hC44
   have hC45:=hC43.row1
   have hC46:=hC45.front 1 z
   dsimp only [List.eraseIdx,List.cons_append,List.nil_append,List.append_nil] at hC46
   have hC47:Ctx [] w0 w24 (Ad (.slice (some ⟨b8,0,none⟩) 1 1) ([(x19.1,x19.2)]:List (Int × (List Int)))::[Ad v2 (x5:(List (Int × (List Int)))),Ai b1 [(I a2.1),u2]]):=hC46.rowOwn (by simp [maxLen])
   refine be hr8 fun x20 hx6 hr8=>BA hC47 0 z Ao ty77 z hx6 z z z fun v18 w25 hC48=>?_
   try dsimp only [List.set] at hC48
   refine Ae z z<|Ab<|?_
   obtain rfl:=Aa hr8
   have hC50:=hC48.h1
   exact An (l':=[(5,v18)]) ⟨z,Ah⟩<|⟨v18,x20,z,z,hC50⟩
  replace hr8:=AA hr8 hc4
  refine A6 ?_
  obtain rfl:=Aa hr8
  have hC51:=hC37.h1
  exact An (l':=[(5,v2)]) ⟨z,Ah⟩<|⟨v2,x5,z,z,hC51⟩
 rintro l5 _ w22 hs5 ⟨v15,x18,rfl,rfl,hC38⟩
 try dsimp only at hF
 refine AO hs5 ?_
 clear hs5
 refine Ac<|Af z z<|Ae z z<|Ab<|AC<|?_
 obtain rfl:=Aa hF
 exact Ay z z<|⟨_,z,B7 hC38 0 z⟩
theorem c_S_UnionOf {w0:World} (a1:(List ((Int × (List Int)) × (List (Int × (List Int)))))) (u1:Value) (g1:RO [] w0 u1 a1) (rr:(List (Int × (List Int)))) (hF:S.UnionOf a1=some rr) :
 Calls Tryz.prog 20 [u1].toArray w0 fun e w'=>∃v,e=.returned v∧Res w0 rr v w':=by
 refine Aw Tryz.func20 z z ?_
 have hC0:=A1 w0
 unfold S.UnionOf at hF
 refine Ac<|Ae z z<|Ab<|Ac<|A8 (vs:=[]) hC0 Ao ty77 z z z z (by simp) z z fun b1 w1 hC1 hB1=>?_
 have hC2:=hC1.row0 (α:=(Int × (List Int)))
 have hC3:=hC2.front 1 z
 dsimp only [List.eraseIdx,List.cons_append,List.nil_append,List.append_nil] at hC3
 have hC4:Ctx [] w0 w1 (Ad (.slice (some ⟨b1,0,none⟩) 0 0) (([]:List (Int × (List Int))):List (Int × (List Int)))::[]):=hC3.rowOwn (by simp [maxLen])
 refine Ae z z<|Ab<|A0<|Ac<|Ae z z<|Ab<|be hF fun r1 hr1 hF=>Bf (fun l w=>∃v2:Value,∃x3:(List (Int × (List Int))),x3=r1∧l=[(3,v2)]∧Below w1.heap.size w1 w∧Ctx [] w0 w [Ad v2 (x3:(List (Int × (List Int))))]) ?_ ?_
 ·refine AB<|wS (l':=[(0,u1),(3,(.slice (some ⟨b1,0,none⟩) 0 0)),(4,(I 0))]) ⟨z,z,z,Ah⟩<|Bo (fun k l w=>∃v1:Value,∃x1:(List (Int × (List Int))),∃x2:Int,l=[(0,u1),(3,v1),(4,(I x2))]∧Below w1.heap.size w1 w∧Ctx [] w0 w [Ad v1 (x1:(List (Int × (List Int))))]∧S.UnionOf_l1 a1 k x1 x2=some r1) FUEL ⟨(.slice (some ⟨b1,0,none⟩) 0 0),([]:List (Int × (List Int))),0,z,(Am _ _),hC4,hr1⟩<|?_
  clear hr1
  rintro k1 _ w2 ⟨v1,x1,x2,rfl,hB2,hC5,hL1⟩
  cases k1 with
  | zero=>rw [S.UnionOf_l1] at hL1; cases hL1
  | succ k1 =>
   rw [S.UnionOf_l1] at hL1
   refine A0<|Ac<|Af z z<|Af z z<|AL AR g1 z z<|AW z z z<|Ab<|A7 z (fun hc1=>?_) (fun hc1=>?_)
   ·replace hL1:=A9 hL1 hc1
    refine A6<|Aj<|A0<|AB<|Ac<|Ae z z<|Ab<|be hL1 fun r2 hr2 hL1=>Bf (fun l w=>∃v4:Value,∃x6:(List (Int × (List Int))),x6=r2∧l=[(0,u1),(3,v4),(4,(I x2))]∧Below w2.heap.size w2 w∧Ctx [] w0 w [Ad v4 (x6:(List (Int × (List Int))))]) ?_ ?_
    ·refine AB<|wS (l':=[(0,u1),(3,v1),(4,(I x2)),(5,(I 0))]) ⟨z,z,z,z,Ah⟩<|Bo (fun k l w=>∃v3:Value,∃x4:(List (Int × (List Int))),∃x5:Int,l=[(0,u1),(3,v3),(4,(I x2)),(5,(I x5))]∧Below w2.heap.size w2 w∧Ctx [] w0 w [Ad v3 (x4:(List (Int × (List Int))))]∧S.UnionOf_l2 a1 x2 k x4 x5=some r2) FUEL ⟨v1,x1,0,z,(Am _ _),hC5,hr2⟩<|?_
     clear hr2
     rintro k2 _ w3 ⟨v3,x4,x5,rfl,hB3,hC6,hL2⟩
     cases k2 with
     | zero=>rw [S.UnionOf_l2] at hL2; cases hL2
     | succ k2 =>
      rw [S.UnionOf_l2] at hL2
      refine A0<|Ac<|Af z z<|Af z z<|Af z z<|be hL2 fun x7 hx1 hL2=>AE AR ty84 g1 hx1 z z z fun b2 o1 h1=>fd AQ Bx z z z z<|AH ty35 h1.snd hC6.keep z z fun v5 h2=>AL Ao h2 z z<|AW z z z<|Ab<|A7 z (fun hc2=>?_) (fun hc2=>?_)
      ·replace hL2:=A9 hL2 hc2
       refine A6<|Aj<|A0<|AB<|AX<|Af z z<|Af z z<|Af z z<|be hL2 fun x8 hx2 hL2=>AE AR ty84 g1 hx2 z z z fun b3 o2 h3=>fd AQ Bx z z z z<|AH ty35 h3.snd hC6.keep z z fun v6 h4=>Af z z<|be hL2 fun x9 hx3 hL2=>AE Ao ty77 h4 hx3 z z z fun b4 o3 h5=>AH ty77 h5 hC6.keep z z fun v7 h6=>?_
       obtain ⟨v8,rfl,h7⟩:=BM h6
       refine be hL2 fun x10 hr3 hL2=>Bc Tryz.call59 z z (c_S_AddFact x4 v3 ((hC6.ro 0 z).now (AP _ _)) x9 v8 (h7.now hC6.keep) x10 hr3)<|?_
       rintro v9 w4 ⟨hB4,F1,hv1,hn1,hb1⟩
       have hC7:=hC6.push hB4 (A:=Ad v9 x10) hv1 hn1 hb1
       exact Ae z z<|Ab<|AJ<|Aj<|AX<|Af z z<|Be z z z<|Ae z z<|Ab<|have hC8:=hC7.h1;An (l':=[(0,u1),(3,v9),(4,(I x2)),(5,(I (w64 (x5+1))))]) ⟨z,z,z,z,Ah⟩<|⟨k2,Az _,v9,x10,w64 (x5+1),z,((Ap hB3).then hB4).below,hC8,hL2⟩
      replace hL2:=AA hL2 hc2
      refine Bm (A2 (A2 (AT ?_)))
      obtain rfl:=Aa hL2
      exact An (l':=[(0,u1),(3,v3),(4,(I x2))]) ⟨z,z,z,Ah⟩<|⟨v3,x4,z,z,(Ap hB3).below,hC6⟩
    rintro l3 _ w5 hs3 ⟨v4,x6,rfl,rfl,hB5,hC9⟩
    try dsimp only at hL1
    refine AJ<|AO hs3<|?_
    clear hs3
    exact AX<|Af z z<|Be z z z<|Ae z z<|Ab<|An (l':=[(0,u1),(3,v4),(4,(I (w64 (x2+1))))]) ⟨z,z,z,Ah⟩<|⟨k1,Az _,v4,x6,w64 (x2+1),z,((Ap hB2).then hB5).below,hC9,hL1⟩
   replace hL1:=AA hL1 hc1
   refine Bm (A2 (A2 (AT ?_)))
   obtain rfl:=Aa hL1
   exact An (l':=[(3,v1)]) ⟨z,Ah⟩<|⟨v1,x1,z,z,(Ap hB2).below,hC5⟩
 rintro l4 _ w6 hs4 ⟨v2,x3,rfl,rfl,hB6,hC10⟩
 try dsimp only at hF
 refine AO hs4 ?_
 clear hs4
 refine Ac<|Af z z<|Ae z z<|Ab<|AC<|?_
 obtain rfl:=Aa hF
 exact Ay z z<|⟨_,z,B7 hC10 0 z⟩
theorem c_S_TrustedFacts {w0:World} (a1:(List Int)) (u1:Value) (g1:RO [] w0 u1 a1) (a2:(List (Int × (List Int) × Int × Int × Int))) (u2:Value) (g2:RO [] w0 u2 a2) (a3:(List ((Int × (List Int)) × (List (Int × (List Int)))))) (u3:Value) (g3:RO [] w0 u3 a3) (rr:(List (Int × (List Int)))) (hF:S.TrustedFacts a1 a2 a3=some rr) :
 Calls Tryz.prog 16 [u1,u2,u3].toArray w0 fun e w'=>∃v,e=.returned v∧Res w0 rr v w':=by
 refine Aw Tryz.func16 z z ?_
 have hC0:=A1 w0
 unfold S.TrustedFacts at hF
 refine Ac<|Ae z z<|Ab<|Ac<|A8 (vs:=[]) hC0 Ao ty77 z z z z (by simp) z z fun b1 w1 hC1 hB1=>?_
 have hC2:=hC1.row0 (α:=(Int × (List Int)))
 have hC3:=hC2.front 1 z
 dsimp only [List.eraseIdx,List.cons_append,List.nil_append,List.append_nil] at hC3
 have hC4:Ctx [] w0 w1 (Ad (.slice (some ⟨b1,0,none⟩) 0 0) (([]:List (Int × (List Int))):List (Int × (List Int)))::[]):=hC3.rowOwn (by simp [maxLen])
 refine Ae z z<|Ab<|Ac<|Af z z<|Af z z<|Af z z<|be hF fun x1 hr1 hF=>Bc Tryz.call10 z z (c_S_AllRemovals a1 u1 (g1.now hC4.keep) a2 u2 (g2.now hC4.keep) a3 u3 (g3.now hC4.keep) x1 hr1)<|?_
 rintro v1 w2 ⟨hB2,F1,hv1,hn1,hb1⟩
 have hC5:=hC4.push hB2 (A:=Ad v1 x1) hv1 hn1 hb1
 refine Ae z z<|Ab<|A0<|Ac<|Ae z z<|Ab<|be hF fun r1 hr2 hF=>Bf (fun l w=>∃v3:Value,∃x4:(List (Int × (List Int))),x4=r1∧l=[(7,v3)]∧Ctx [] w0 w [Ad v3 (x4:(List (Int × (List Int))))]) ?_ ?_
 ·refine AB<|wS (l':=[(2,u3),(7,(.slice (some ⟨b1,0,none⟩) 0 0)),(8,v1),(9,(I 0))]) ⟨z,z,z,z,Ah⟩<|Bo (fun k l w=>∃v2:Value,∃x2:(List (Int × (List Int))),∃x3:Int,l=[(2,u3),(7,v2),(8,v1),(9,(I x3))]∧Ctx [] w0 w [Ad v1 (x1:(List (List Int))),Ad v2 (x2:(List (Int × (List Int))))]∧S.TrustedFacts_l1 x1 a3 k x2 x3=some r1) FUEL ⟨(.slice (some ⟨b1,0,none⟩) 0 0),([]:List (Int × (List Int))),0,z,hC5,hr2⟩<|?_
  clear hr2
  rintro k1 _ w3 ⟨v2,x2,x3,rfl,hC6,hL1⟩
  cases k1 with
  | zero=>rw [S.TrustedFacts_l1] at hL1; cases hL1
  | succ k1 =>
   rw [S.TrustedFacts_l1] at hL1
   refine A0<|Ac<|Af z z<|Af z z<|AL AG (hC6.ro 0 z) z z<|AW z z z<|Ab<|A7 z (fun hc1=>?_) (fun hc1=>?_)
   ·replace hL1:=A9 hL1 hc1
    refine A6<|Aj<|A0<|AB<|Ac<|Af z z<|Af z z<|Af z z<|be hL1 fun x5 hx1 hL1=>AE AG ty24 (hC6.ro 0 z) hx1 z z z fun b2 o1 h1=>AH ty24 h1 (AP _ _) z z fun v4 h2=>be hL1 fun x6 hr3 hL1=>Bc Tryz.call23 z z (c_S_Without a3 u3 (g3.now hC6.keep) x5 v4 (h2.now (AP _ _)) x6 hr3)<|?_
    rintro v5 w4 ⟨hB4,F2,hv2,hn2,hb2⟩
    have hC7:=hC6.push hB4 (A:=Ad v5 x6) hv2 hn2 hb2
    refine be hL1 fun x7 hr4 hL1=>Bc Tryz.call20 z z (c_S_UnionOf x6 v5 ((hC7.ro 0 z).now (AP _ _)) x7 hr4)<|?_
    rintro v6 w5 ⟨hB5,F3,hv3,hn3,hb3⟩
    have hC8:=hC7.push hB5 (A:=Ad v6 x7) hv3 hn3 hb3
    refine Ae z z<|Ab<|A0<|Ac<|Af z z<|Ca z z z<|Ab<|A7 z (fun hc2=>?_) (fun hc2=>?_)
    ·replace hL1:=A9 hL1 hc2
     exact Ac<|Af z z<|Ae z z<|Ab<|Bm<|A2<|AT<|Aj<|AX<|Af z z<|Be z z z<|Ae z z<|Ab<|have hC9:=hC8.f2;have hC10:=hC9.h2;An (l':=[(2,u3),(7,v6),(8,v1),(9,(I (w64 (x3+1))))]) ⟨z,z,z,z,Ah⟩<|⟨k1,Az _,v6,x7,w64 (x3+1),z,hC10,hL1⟩
    replace hL1:=AA hL1 hc2
    refine A6<|Aj<|Ac<|A8 (vs:=[]) hC8 Ao ty77 z z z z (by simp) z z fun b3 w6 hC11 hB6=>?_
    have hC12:=hC11.row0 (α:=(Int × (List Int)))
    have hC13:=hC12.front 1 z
    dsimp only [List.eraseIdx,List.cons_append,List.nil_append,List.append_nil] at hC13
    have hC14:Ctx [] w0 w6 (Ad (.slice (some ⟨b3,0,none⟩) 0 0) (([]:List (Int × (List Int))):List (Int × (List Int)))::[Ad v6 (x7:(List (Int × (List Int)))),Ad v5 (x6:(List ((Int × (List Int)) × (List (Int × (List Int)))))),Ad v1 (x1:(List (List Int))),Ad v2 (x2:(List (Int × (List Int))))]):=hC13.rowOwn (by simp [maxLen])
    refine Ae z z<|Ab<|A0<|Ac<|Ae z z<|Ab<|be hL1 fun r2 hr5 hL1=>have hC15:=hC14.f4;have hC16:=hC15.ownRest;Bf (fun l w=>∃v8:Value,∃x10:(List (Int × (List Int))),x10=r2∧l=[(2,u3),(8,v1),(9,(I x3)),(11,v8)]∧Ctx [] w0 w [Ad v8 (x10:(List (Int × (List Int)))),Ad v1 (x1:(List (List Int)))]) ?_ ?_
    ·refine AB<|have hC40:=hC16.f4;have hC41:=hC40.f3;have hC42:=hC41.f3;have hC43:=hC42.f3;have hC44:=hC43.h4;wS (l':=[(2,u3),(7,v2),(8,v1),(9,(I x3)),(10,v6),(11,(.slice (some ⟨b3,0,none⟩) 0 0)),(12,(I 0))]) ⟨z,z,z,z,z,z,z,Ah⟩<|Bo (fun k l w=>∃v7:Value,∃x8:(List (Int × (List Int))),∃x9:Int,l=[(2,u3),(7,v2),(8,v1),(9,(I x3)),(10,v6),(11,v7),(12,(I x9))]∧Ctx [] w0 w [Item.rest v2 (x2:(List (Int × (List Int)))) (Int.toNat x9),Ad v7 (x8:(List (Int × (List Int)))),Ad v6 (x7:(List (Int × (List Int)))),Ad v1 (x1:(List (List Int)))]∧S.TrustedFacts_l2 x2 x7 k x8 x9=some r2) FUEL ⟨(.slice (some ⟨b3,0,none⟩) 0 0),([]:List (Int × (List Int))),0,z,hC44,hr5⟩<|?_
     clear hr5
     rintro k2 _ w7 ⟨v7,x8,x9,rfl,hC17,hL2⟩
     cases k2 with
     | zero=>rw [S.TrustedFacts_l2] at hL2; cases hL2
     | succ k2 =>
      rw [S.TrustedFacts_l2] at hL2
      refine A0<|Ac<|Af z z<|Af z z<|WL_len_rest hC17 0 z Ao z z<|AW z z z<|Ab<|A7 z (fun hc3=>?_) (fun hc3=>?_)
      ·replace hL2:=A9 hL2 hc3
       refine A6<|Aj<|A0<|AB<|be hL2 fun x11 hx2 hL2=>?_
       obtain ⟨b4,cs1,hE1,hC18⟩:=hC17.openRest hx2
       obtain ⟨v9,he1,hC19⟩:=st77_own (hC18.cellsOwn z)
       obtain rfl:=cells_of_agg he1
       refine Ac<|Af z z<|Af z z<|Af z z<|Dm hC19 1 z Ao ty77 hE1 hx2 z z z<|CV (fo:=0) (cs':=[(I x11.1),v9]) hC19 1 z hE1 z z z B4 Br z z<|be hL2 fun x12 hr6 hL2=>cb Tryz.call54 z z (c_S_HasFact x7 v6 ((hC19.ro 3 z).now (AP _ _)) (x11.1,x11.2) v9 ((hC19.ro 0 z).now (AP _ _)) x12 hr6) fun w9 hB8=>have hC20:=hC19.grow hB8;Ab<|be hL2 fun r3 hr7 hL2=>Bf (fun l w=>∃v10:Value,∃x13:(List (Int × (List Int))),x13=r3∧l=[(2,u3),(7,v2),(8,v1),(9,(I x3)),(10,v6),(11,v10),(12,(I x9))]∧Ctx [] w0 w [Df v2 (x2:(List (Int × (List Int)))) (Int.toNat x9) [(I x11.1),v9],Ad v10 (x13:(List (Int × (List Int)))),Ad v6 (x7:(List (Int × (List Int)))),Ad v1 (x1:(List (List Int)))]) ?_ ?_
       ·refine A7 z (fun hc4=>?_) (fun hc4=>?_)
        ·replace hr7:=A9 hr7 hc4
         refine AX<|Af z z<|Af z z<|Af z z<|Dm hC20 1 z Ao ty77 hE1 hx2 z z z<|CV (fo:=0) (cs':=[(I x11.1),v9]) hC20 1 z hE1 z z z B4 Br z z<|A8 (vs:=[(.agg #[(I x11.1),v9])]) hC20 Ao ty77 z z z z (fac z<|fa0) z z fun b5 w11 hC22 hB10=>?_
         have hC23:=hC22.row0 (α:=(Int × (List Int)))
         have hC25:=hC23.f2
         have hC24:=Cm x11.1 v9 x11.2 hC25
         have hC26:=hC24.row1
         have hC27:=hC26.front 1 z
         dsimp only [List.eraseIdx,List.cons_append,List.nil_append,List.append_nil] at hC27
         have hC28:Ctx [] w0 w11 (Ad (.slice (some ⟨b5,0,none⟩) 1 1) ([(x11.1,x11.2)]:List (Int × (List Int)))::[Df v2 (x2:(List (Int × (List Int)))) (Int.toNat x9) [(I x11.1),v9],Ad v7 (x8:(List (Int × (List Int)))),Ad v6 (x7:(List (Int × (List Int)))),Ad v1 (x1:(List (List Int)))]):=hC27.rowOwn (by simp [maxLen])
         refine be hr7 fun x14 hx3 hr7=>BA hC28 1 z Ao ty77 z hx3 z z z fun v11 w12 hC29=>?_
         try dsimp only [List.set] at hC29
         refine Ae z z<|Ab<|?_
         obtain rfl:=Aa hr7
         exact An (l':=[(2,u3),(7,v2),(8,v1),(9,(I x3)),(10,v6),(11,v11),(12,(I x9))]) ⟨z,z,z,z,z,z,z,Ah⟩<|⟨v11,x14,z,z,hC29⟩
        replace hr7:=AA hr7 hc4
        refine A6 ?_
        obtain rfl:=Aa hr7
        have hC31:=hC20.f4
        have hC32:=hC31.f4
        have hC33:=hC32.f4
        have hC34:=hC33.f4
        have hC35:=hC34.h4
        exact An (l':=[(2,u3),(7,v2),(8,v1),(9,(I x3)),(10,v6),(11,v7),(12,(I x9))]) ⟨z,z,z,z,z,z,z,Ah⟩<|⟨v7,x8,z,z,hC35⟩
       rintro l3 _ w10 hs3 ⟨v10,x13,rfl,rfl,hC21⟩
       try dsimp only at hL2
       refine AJ<|AO hs3<|?_
       clear hs3
       refine AX<|Af z z<|Be z z z<|Ae z z<|Ab<|?_
       have hC36:=Ctx.rholeNext hx2 hC21
       exact An (l':=[(2,u3),(7,v2),(8,v1),(9,(I x3)),(10,v6),(11,v10),(12,(I (w64 (x9+1))))]) ⟨z,z,z,z,z,z,z,Ah⟩<|⟨k2,Az _,v10,x13,w64 (x9+1),z,hC36,hL2⟩
      replace hL2:=AA hL2 hc3
      refine Bm (A2 (A2 (AT ?_)))
      obtain rfl:=Aa hL2
      have hC37:=hC17.f3
      have hC38:=hC37.f2
      have hC39:=hC38.h2
      exact An (l':=[(2,u3),(8,v1),(9,(I x3)),(11,v7)]) ⟨z,z,z,z,Ah⟩<|⟨v7,x8,z,z,hC39⟩
    rintro l4 _ w13 hs4 ⟨v8,x10,rfl,rfl,hC45⟩
    try dsimp only at hL1
    refine AO hs4 ?_
    clear hs4
    exact AX<|Af z z<|Ae z z<|Ab<|AJ<|Aj<|AX<|Af z z<|Be z z z<|Ae z z<|Ab<|have hC46:=hC45.f1;An (l':=[(2,u3),(7,v8),(8,v1),(9,(I (w64 (x3+1))))]) ⟨z,z,z,z,Ah⟩<|⟨k1,Az _,v8,x10,w64 (x3+1),z,hC46,hL1⟩
   replace hL1:=AA hL1 hc1
   refine Bm (A2 (A2 (AT ?_)))
   obtain rfl:=Aa hL1
   have hC47:=hC6.f1
   have hC48:=hC47.h1
   exact An (l':=[(7,v2)]) ⟨z,Ah⟩<|⟨v2,x2,z,z,hC48⟩
 rintro l5 _ w14 hs5 ⟨v3,x4,rfl,rfl,hC49⟩
 try dsimp only at hF
 refine AO hs5 ?_
 clear hs5
 refine Ac<|Af z z<|Ae z z<|Ab<|AC<|?_
 obtain rfl:=Aa hF
 exact Ay z z<|⟨_,z,B7 hC49 0 z⟩
theorem c_S_IsVar {w0:World} (a1:Int) (rr:Bool) (hF:S.IsVar a1=some rr) :
 Calls Tryz.prog 171 [(I a1)].toArray w0 fun e w'=>∃v,e=.returned v∧Res w0 rr v w':=by
 refine Aw Tryz.func171 z z ?_
 have hC0:=A1 w0
 unfold S.IsVar at hF
 refine Ac<|Ae z z<|Ab<|Ac<|Af z z<|be hF fun x1 hr1 hF=>cb BN z z (c_S_l1In a1 10 17 x1 hr1) fun w1 hB1=>have hC1:=hC0.grow hB1;Ae z z<|Ab<|AC<|?_
 obtain rfl:=Aa hF
 exact Ay z z<|⟨_,z,AD hC1 _⟩
theorem c_S_l3Put_own {w0:World} {Fs:List (List Nat)} (a1:(List Int)) (u1:Value) (a2:Int) (hH:Hold [Ad u1 (a1:(List Int))] w0 Fs) (hn:Fs.flatten.Nodup) (rr:(List Int)) (hF:S.l3Put a1 a2=some rr) :
 Calls Tryz.prog 172 [u1,(I a2)].toArray w0 fun e w'=>∃v,e=.returned v∧∃q0:Value,v=q0∧Ctx Fs.flatten w0 w' [Ad q0 (rr:(List Int))]:=by
 refine Aw Tryz.func172 z z ?_
 have hC0:=BV hH hn
 unfold S.l3Put at hF
 refine Ac<|Ae z z<|Ab<|A0<|Ac<|Af z z<|Af z z<|be hF fun x1 hr1 hF=>cb Tryz.call61 z z (c_S_l2Has a1 u1 ((hC0.ro 0 z).now (AP _ _)) a2 x1 hr1) fun w1 hB1=>have hC1:=hC0.grow hB1;Ab<|A7 z (fun hc1=>?_) (fun hc1=>?_)
 ·replace hF:=A9 hF hc1
  refine Ac<|Af z z<|Ae z z<|Ab<|AC<|Ar<|?_
  obtain rfl:=Aa hF
  exact Ay z z<|⟨_,z,_,z,hC1⟩
 replace hF:=AA hF hc1
 refine A6<|Aj<|Ac<|A8 (vs:=[]) hC1 Ag ty3 z z z z (by simp) z z fun b1 w2 hC3 hB2=>?_
 have hC4:=hC3.row0 (α:=Int)
 have hC5:=hC4.front 1 z
 dsimp only [List.eraseIdx,List.cons_append,List.nil_append,List.append_nil] at hC5
 have hC6:Ctx Fs.flatten w0 w2 (Ad (.slice (some ⟨b1,0,none⟩) 0 0) (([]:List Int):List Int)::[Ad u1 (a1:(List Int))]):=hC5.rowOwn (by simp [maxLen])
 refine Ae z z<|Ab<|Ac<|Ae z z<|Ab<|A0<|Ac<|Ae z z<|Ab<|be hF fun r1 hr2 hF=>Bf (fun l w=>∃v2:Value,∃x5:(List Int),∃x6:Bool,(x5,x6)=r1∧l=[(1,(I a2)),(5,v2),(6,(.bool x6))]∧Ctx Fs.flatten w0 w [Ad v2 (x5:(List Int)),Ad u1 (a1:(List Int))]) ?_ ?_
 ·refine AB<|wS (l':=[(0,u1),(1,(I a2)),(5,(.slice (some ⟨b1,0,none⟩) 0 0)),(6,(.bool false)),(7,(I 0))]) ⟨z,z,z,z,z,Ah⟩<|Bo (fun k l w=>∃v1:Value,∃x2:(List Int),∃x3:Bool,∃x4:Int,l=[(0,u1),(1,(I a2)),(5,v1),(6,(.bool x3)),(7,(I x4))]∧Ctx Fs.flatten w0 w [Ad v1 (x2:(List Int)),Ad u1 (a1:(List Int))]∧S.l3Put_l1 a1 a2 k x2 x3 x4=some r1) FUEL ⟨(.slice (some ⟨b1,0,none⟩) 0 0),([]:List Int),false,0,z,hC6,hr2⟩<|?_
  clear hr2
  rintro k1 _ w3 ⟨v1,x2,x3,x4,rfl,hC7,hL1⟩
  cases k1 with
  | zero=>rw [S.l3Put_l1] at hL1; cases hL1
  | succ k1 =>
   rw [S.l3Put_l1] at hL1
   refine A0<|Ac<|Af z z<|Af z z<|AL Ag (hC7.ro 1 z) z z<|AW z z z<|Ab<|A7 z (fun hc2=>?_) (fun hc2=>?_)
   ·replace hL1:=A9 hL1 hc2
    refine A6<|Aj<|A0<|AB<|A0<|be hL1 fun r2 hr3 hL1=>BH (fun l w=>∃x7:Bool,x7=r2∧l=[(0,u1),(1,(I a2)),(5,v1),(6,(.bool x3)),(7,(I x4)),(28,(.bool x7))]∧Below w3.heap.size w3 w∧Ctx Fs.flatten w0 w [Ad v1 (x2:(List Int)),Ad u1 (a1:(List Int))]) ?_ ?_
    ·refine AX<|Af z z<|Bw z z<|Af z z<|Bz (fun hc3=>?_) (fun hc3=>?_)
     ·replace hr3:=A9 hr3 hc3
      refine Ak z z<|Af z z<|Ak z z<|Af z z<|be hr3 fun x8 hx1 hr3=>Ak z z<|AE Ag ty3 (hC7.ro 1 z) hx1 z z z fun b2 o1 h1=>Ak z z<|AH ty3 h1 (AP _ _) z z fun v3 h2=>?_
      obtain rfl:=By h2
      refine Ak z z<|Af z z<|Ak z z<|C1 z z z<|Ba z z z<|Ab<|?_
      obtain rfl:=Aa hr3
      exact An (l':=[(0,u1),(1,(I a2)),(5,v1),(6,(.bool x3)),(7,(I x4)),(28,(.bool (decide (a2 < x8))))]) ⟨z,z,z,z,z,z,Ah⟩<|⟨(decide (a2 < x8)),z,z,(Am _ _),hC7⟩
     replace hr3:=AA hr3 hc3
     refine gs z z z z<|gs z z z z<|gs z z z z<|gs z z z z<|gs z z z z<|gs z z z z<|AY z z z<|Ab<|?_
     obtain rfl:=Aa hr3
     exact An (l':=[(0,u1),(1,(I a2)),(5,v1),(6,(.bool x3)),(7,(I x4)),(28,(.bool false))]) ⟨z,z,z,z,z,z,Ah⟩<|⟨false,z,z,(Am _ _),hC7⟩
    rintro _ w4 ⟨x7,rfl,rfl,hB4,hC8⟩
    try dsimp only at hL1
    refine be hL1 fun r3 hr4 hL1=>Bf (fun l w=>∃v4:Value,∃x9:(List Int),∃x10:Bool,(x9,x10)=r3∧l=[(0,u1),(1,(I a2)),(5,v4),(6,(.bool x10)),(7,(I x4))]∧Ctx Fs.flatten w0 w [Ad v4 (x9:(List Int)),Ad u1 (a1:(List Int))]) ?_ ?_
    ·refine A7 z (fun hc4=>?_) (fun hc4=>?_)
     ·replace hr4:=A9 hr4 hc4
      refine Ac<|Af z z<|Af z z<|A8 (vs:=[(I a2)]) hC8 Ag ty3 z z z z (fac z<|fa0) z z fun b3 w6 hC10 hB6=>?_
      have hC11:=hC10.row0 (α:=Int)
      have hC12:=hC11.triv (B2 (a2))
      have hC13:=hC12.row1
      have hC14:=hC13.front 1 z
      dsimp only [List.eraseIdx,List.cons_append,List.nil_append,List.append_nil] at hC14
      have hC15:Ctx Fs.flatten w0 w6 (Ad (.slice (some ⟨b3,0,none⟩) 1 1) ([a2]:List Int)::[Ad v1 (x2:(List Int)),Ad u1 (a1:(List Int))]):=hC14.rowOwn (by simp [maxLen])
      refine be hr4 fun x11 hx2 hr4=>Bt (α:=Int) hC15 1 z (hC15.ro 0 z) (AP _ _) Ag ty3 z hx2 z z z fun v5 w7 hC16=>?_
      try dsimp only [List.set] at hC16
      refine Ae z z<|Ab<|AX<|Ae z z<|Ab<|?_
      obtain rfl:=Aa hr4
      have hC17:=hC16.f2
      have hC18:=hC17.f2
      have hC19:=hC18.h2
      exact An (l':=[(0,u1),(1,(I a2)),(5,v5),(6,(.bool true)),(7,(I x4))]) ⟨z,z,z,z,z,Ah⟩<|⟨v5,x11,true,z,z,hC19⟩
     replace hr4:=AA hr4 hc4
     refine A6 ?_
     obtain rfl:=Aa hr4
     exact An (l':=[(0,u1),(1,(I a2)),(5,v1),(6,(.bool x3)),(7,(I x4))]) ⟨z,z,z,z,z,Ah⟩<|⟨v1,x2,x3,z,z,hC8⟩
    rintro l3 _ w5 hs3 ⟨v4,x9,x10,rfl,rfl,hC9⟩
    try dsimp only at hL1
    refine AO hs3 ?_
    clear hs3
    refine AX<|Af z z<|Af z z<|Af z z<|be hL1 fun x12 hx3 hL1=>AE Ag ty3 (hC9.ro 1 z) hx3 z z z fun b4 o2 h3=>AH ty3 h3 (AP _ _) z z fun v6 h4=>?_
    obtain rfl:=By h4
    refine A8 (vs:=[(I x12)]) hC9 Ag ty3 z z z z (fac z<|fa0) z z (fun b5 w9 hC20 hB7=>?_)
    have hC21:=hC20.row0 (α:=Int)
    have hC22:=hC21.triv (B2 (x12))
    have hC23:=hC22.row1
    have hC24:=hC23.front 1 z
    dsimp only [List.eraseIdx,List.cons_append,List.nil_append,List.append_nil] at hC24
    have hC25:Ctx Fs.flatten w0 w9 (Ad (.slice (some ⟨b5,0,none⟩) 1 1) ([x12]:List Int)::[Ad v4 (x9:(List Int)),Ad u1 (a1:(List Int))]):=hC24.rowOwn (by simp [maxLen])
    refine be hL1 fun x13 hx4 hL1=>Bt (α:=Int) hC25 1 z (hC25.ro 0 z) (AP _ _) Ag ty3 z hx4 z z z fun v7 w10 hC26=>?_
    try dsimp only [List.set] at hC26
    exact Ae z z<|Ab<|AJ<|Aj<|AX<|Af z z<|Be z z z<|Ae z z<|Ab<|have hC27:=hC26.f2;have hC28:=hC27.f2;have hC29:=hC28.h2;An (l':=[(0,u1),(1,(I a2)),(5,v7),(6,(.bool x10)),(7,(I (w64 (x4+1))))]) ⟨z,z,z,z,z,Ah⟩<|⟨k1,Az _,v7,x13,x10,w64 (x4+1),z,hC29,hL1⟩
   replace hL1:=AA hL1 hc2
   refine Bm (A2 (A2 (AT ?_)))
   obtain rfl:=Aa hL1
   exact An (l':=[(1,(I a2)),(5,v1),(6,(.bool x3))]) ⟨z,z,z,Ah⟩<|⟨v1,x2,x3,z,z,hC7⟩
 rintro l4 _ w11 hs4 ⟨v2,x5,x6,rfl,rfl,hC30⟩
 try dsimp only at hF
 refine AO hs4 ?_
 clear hs4
 refine A0<|Ac<|Af z z<|Bw z z<|Ab<|be hF fun r4 hr5 hF=>Bf (fun l w=>∃v8:Value,∃x14:(List Int),x14=r4∧l=[(5,v8)]∧Ctx Fs.flatten w0 w [Ad v8 (x14:(List Int)),Ad u1 (a1:(List Int))]) ?_ ?_
 ·refine A7 z (fun hc5=>?_) (fun hc5=>?_)
  ·replace hr5:=A9 hr5 hc5
   refine AX<|Af z z<|Af z z<|A8 (vs:=[(I a2)]) hC30 Ag ty3 z z z z (fac z<|fa0) z z fun b6 w13 hC32 hB10=>?_
   have hC33:=hC32.row0 (α:=Int)
   have hC34:=hC33.triv (B2 (a2))
   have hC35:=hC34.row1
   have hC36:=hC35.front 1 z
   dsimp only [List.eraseIdx,List.cons_append,List.nil_append,List.append_nil] at hC36
   have hC37:Ctx Fs.flatten w0 w13 (Ad (.slice (some ⟨b6,0,none⟩) 1 1) ([a2]:List Int)::[Ad v2 (x5:(List Int)),Ad u1 (a1:(List Int))]):=hC36.rowOwn (by simp [maxLen])
   refine be hr5 fun x15 hx5 hr5=>Bt (α:=Int) hC37 1 z (hC37.ro 0 z) (AP _ _) Ag ty3 z hx5 z z z fun v9 w14 hC38=>?_
   try dsimp only [List.set] at hC38
   refine Ae z z<|Ab<|?_
   obtain rfl:=Aa hr5
   have hC39:=hC38.f2
   have hC40:=hC39.f2
   have hC41:=hC40.h2
   exact An (l':=[(5,v9)]) ⟨z,Ah⟩<|⟨v9,x15,z,z,hC41⟩
  replace hr5:=AA hr5 hc5
  refine A6 ?_
  obtain rfl:=Aa hr5
  exact An (l':=[(5,v2)]) ⟨z,Ah⟩<|⟨v2,x5,z,z,hC30⟩
 rintro l5 _ w12 hs5 ⟨v8,x14,rfl,rfl,hC31⟩
 try dsimp only at hF
 refine AO hs5 ?_
 clear hs5
 refine Ac<|Af z z<|Ae z z<|Ab<|AC<|?_
 obtain rfl:=Aa hF
 exact Ay z z<|have hC43:=hC31.h1;⟨_,z,_,z,hC43⟩
theorem c_S_VarsOf {w0:World} (a1:((List Int) × (List (Int × (List Int))))) (u1:Value) (g1:RO [] w0 u1 a1.1) (u2:Value) (g2:RO [] w0 u2 a1.2) (rr:(List Int)) (hF:S.VarsOf a1=some rr) :
 Calls Tryz.prog 118 [(.agg #[u1,u2])].toArray w0 fun e w'=>∃v,e=.returned v∧Res w0 rr v w':=by
 refine Aw Tryz.func118 z z ?_
 have hC0:=A1 w0
 unfold S.VarsOf at hF
 refine Ac<|Bb (cs:=[u1,u2]) hC0 z z z fun b1 w1 hC1 hB1 hN1=>Ae z z<|Ab<|Ac<|A8 (vs:=[]) hC1 Ag ty3 z z z z (by simp) z z fun b2 w2 hC2 hB2=>?_
 have hC3:=hC2.row0 (α:=Int)
 have hC4:=hC3.front 1 z
 dsimp only [List.eraseIdx,List.cons_append,List.nil_append,List.append_nil] at hC4
 have hC5:Ctx [] w0 w2 (Ad (.slice (some ⟨b2,0,none⟩) 0 0) (([]:List Int):List Int)::[Ai b1 [u1,u2]]):=hC4.rowOwn (by simp [maxLen])
 refine Ae z z<|Ab<|A0<|Ac<|Ae z z<|Ab<|be hF fun r1 hr1 hF=>Bf (fun l w=>∃v2:Value,∃x3:(List Int),x3=r1∧l=[(3,v2)]∧Ctx [] w0 w [Ad v2 (x3:(List Int))]) ?_ ?_
 ·refine AB<|wS (l':=[(1,(ptr b1 0)),(3,(.slice (some ⟨b2,0,none⟩) 0 0)),(4,(I 0))]) ⟨z,z,z,Ah⟩<|Bo (fun k l w=>∃v1:Value,∃x1:(List Int),∃x2:Int,l=[(1,(ptr b1 0)),(3,v1),(4,(I x2))]∧Ctx [] w0 w [Ad v1 (x1:(List Int)),Ai b1 [u1,u2]]∧S.VarsOf_l1 a1 k x1 x2=some r1) FUEL ⟨(.slice (some ⟨b2,0,none⟩) 0 0),([]:List Int),0,z,hC5,hr1⟩<|?_
  clear hr1
  rintro k1 _ w3 ⟨v1,x1,x2,rfl,hC6,hL1⟩
  cases k1 with
  | zero=>rw [S.VarsOf_l1] at hL1; cases hL1
  | succ k1 =>
   rw [S.VarsOf_l1] at hL1
   refine A0<|Ac<|Af z z<|fd Bn BB z z z z<|Al hC6 1 z z BK z z<|AL Bp g2 z z<|AW z z z<|Ab<|A7 z (fun hc1=>?_) (fun hc1=>?_)
   ·replace hL1:=A9 hL1 hc1
    refine A6<|Aj<|A0<|AB<|Ac<|Ae z z<|Ab<|be hL1 fun r2 hr2 hL1=>Bf (fun l w=>∃v4:Value,∃x6:(List Int),x6=r2∧l=[(1,(ptr b1 0)),(3,v4),(4,(I x2))]∧Ctx [] w0 w [Ad v4 (x6:(List Int)),Ai b1 [u1,u2]]) ?_ ?_
    ·refine AB<|wS (l':=[(1,(ptr b1 0)),(3,v1),(4,(I x2)),(5,(I 0))]) ⟨z,z,z,z,Ah⟩<|Bo (fun k l w=>∃v3:Value,∃x4:(List Int),∃x5:Int,l=[(1,(ptr b1 0)),(3,v3),(4,(I x2)),(5,(I x5))]∧Ctx [] w0 w [Ad v3 (x4:(List Int)),Ai b1 [u1,u2]]∧S.VarsOf_l2 a1 x2 k x4 x5=some r2) FUEL ⟨v1,x1,0,z,hC6,hr2⟩<|?_
     clear hr2
     rintro k2 _ w4 ⟨v3,x4,x5,rfl,hC7,hL2⟩
     cases k2 with
     | zero=>rw [S.VarsOf_l2] at hL2; cases hL2
     | succ k2 =>
      rw [S.VarsOf_l2] at hL2
      refine A0<|Ac<|Af z z<|fd Bn BB z z z z<|Al hC7 1 z z BK z z<|Af z z<|be hL2 fun x7 hx1 hL2=>AE Bp ty93 g2 hx1 z z z fun b3 o1 h1=>fd AZ Au z z z z<|AH ty24 h1.snd hC7.keep z z fun v5 h2=>AL Ag h2 z z<|AW z z z<|Ab<|A7 z (fun hc2=>?_) (fun hc2=>?_)
      ·replace hL2:=A9 hL2 hc2
       refine A6<|Aj<|A0<|AB<|Ac<|fd Bn BB z z z z<|Al hC7 1 z z BK z z<|Af z z<|be hL2 fun x8 hx2 hL2=>AE Bp ty93 g2 hx2 z z z fun b4 o2 h3=>fd AZ Au z z z z<|AH ty24 h3.snd hC7.keep z z fun v6 h4=>Af z z<|be hL2 fun x9 hx3 hL2=>AE Ag ty3 h4 hx3 z z z fun b5 o3 h5=>AH ty3 h5 hC7.keep z z fun v7 h6=>?_
       obtain rfl:=By h6
       refine be hL2 fun x10 hr3 hL2=>cb Di z z (c_S_IsVar x9 x10 hr3) fun w5 hB5=>have hC8:=hC7.grow hB5;Ab<|be hL2 fun r3 hr4 hL2=>Bf (fun l w=>∃v8:Value,∃x11:(List Int),x11=r3∧l=[(1,(ptr b1 0)),(3,v8),(4,(I x2)),(5,(I x5))]∧Ctx [] w0 w [Ad v8 (x11:(List Int)),Ai b1 [u1,u2]]) ?_ ?_
       ·refine A7 z (fun hc3=>?_) (fun hc3=>?_)
        ·replace hr4:=A9 hr4 hc3
         refine AX<|Af z z<|fd Bn BB z z z z<|Al hC8 1 z z BK z z<|Af z z<|be hr4 fun x12 hx4 hr4=>AE Bp ty93 g2 hx4 z z z fun b6 o4 h7=>fd AZ Au z z z z<|AH ty24 h7.snd hC8.keep z z fun v9 h8=>Af z z<|be hr4 fun x13 hx5 hr4=>AE Ag ty3 h8 hx5 z z z fun b7 o5 h9=>AH ty3 h9 hC8.keep z z fun v10 h10=>?_
         obtain rfl:=By h10
         obtain ⟨x14,hr5,hr4⟩:=bind_some hr4
         obtain ⟨Fs1,hH1,hn1,hF1,hO1,hb1⟩:=BO (As:=[Ai b1 [u1,u2]]) [Ad v3 (x4:(List Int))] hC8
         refine Bc Tryz.call172 z z (c_S_l3Put_own x4 v3 x13 hH1 hn1 x14 hr5) ?_
         rintro v11 w7 ⟨_,rfl,hq1⟩
         have hC11:Ctx [] w0 w7 [Ad v11 (x14:(List Int)),Ai b1 [u1,u2]]:=hb1 _ _ hq1
         refine Ae z z<|Ab<|?_
         obtain rfl:=Aa hr4
         exact An (l':=[(1,(ptr b1 0)),(3,v11),(4,(I x2)),(5,(I x5))]) ⟨z,z,z,z,Ah⟩<|⟨v11,x14,z,z,hC11⟩
        replace hr4:=AA hr4 hc3
        refine A6 ?_
        obtain rfl:=Aa hr4
        exact An (l':=[(1,(ptr b1 0)),(3,v3),(4,(I x2)),(5,(I x5))]) ⟨z,z,z,z,Ah⟩<|⟨v3,x4,z,z,hC8⟩
       rintro l3 _ w6 hs3 ⟨v8,x11,rfl,rfl,hC9⟩
       try dsimp only at hL2
       refine AJ<|AO hs3<|?_
       clear hs3
       exact AX<|Af z z<|Be z z z<|Ae z z<|Ab<|An (l':=[(1,(ptr b1 0)),(3,v8),(4,(I x2)),(5,(I (w64 (x5+1))))]) ⟨z,z,z,z,Ah⟩<|⟨k2,Az _,v8,x11,w64 (x5+1),z,hC9,hL2⟩
      replace hL2:=AA hL2 hc2
      refine Bm (A2 (A2 (AT ?_)))
      obtain rfl:=Aa hL2
      exact An (l':=[(1,(ptr b1 0)),(3,v3),(4,(I x2))]) ⟨z,z,z,Ah⟩<|⟨v3,x4,z,z,hC7⟩
    rintro l4 _ w9 hs4 ⟨v4,x6,rfl,rfl,hC12⟩
    try dsimp only at hL1
    refine AJ<|AO hs4<|?_
    clear hs4
    exact AX<|Af z z<|Be z z z<|Ae z z<|Ab<|An (l':=[(1,(ptr b1 0)),(3,v4),(4,(I (w64 (x2+1))))]) ⟨z,z,z,Ah⟩<|⟨k1,Az _,v4,x6,w64 (x2+1),z,hC12,hL1⟩
   replace hL1:=AA hL1 hc1
   refine Bm (A2 (A2 (AT ?_)))
   obtain rfl:=Aa hL1
   have hC13:=hC6.h1
   exact An (l':=[(3,v1)]) ⟨z,Ah⟩<|⟨v1,x1,z,z,hC13⟩
 rintro l5 _ w10 hs5 ⟨v2,x3,rfl,rfl,hC14⟩
 try dsimp only at hF
 refine AO hs5 ?_
 clear hs5
 refine Ac<|Af z z<|Ae z z<|Ab<|AC<|?_
 obtain rfl:=Aa hF
 exact Ay z z<|⟨_,z,B7 hC14 0 z⟩
theorem c_S_IsTerm {w0:World} (a1:Int) (rr:Bool) (hF:S.IsTerm a1=some rr) :
 Calls Tryz.prog 179 [(I a1)].toArray w0 fun e w'=>∃v,e=.returned v∧Res w0 rr v w':=by
 refine Aw Tryz.func179 z z ?_
 have hC0:=A1 w0
 unfold S.IsTerm at hF
 refine Ac<|Ae z z<|Ab<|be hF fun r1 hr1 hF=>BH (fun l w=>∃x1:Bool,x1=r1∧l=[(2,(.bool x1))]∧Below w0.heap.size w0 w∧Ctx [] w0 w []) ?_ ?_
 ·refine AX<|Af z z<|be hr1 fun x2 hr2 hr1=>cb BN z z (c_S_l1In a1 0 9 x2 hr2) fun w2 hB2=>have hC2:=hC0.grow hB2;Af z z<|Bz (fun hc1=>?_) (fun hc1=>?_)
  ·replace hr1:=A9 hr1 hc1
   refine gs z z z z<|gs z z z z<|Ba z z z<|Ae z z<|Ab<|?_
   obtain rfl:=Aa hr1
   exact An (l':=[(2,(.bool true))]) ⟨z,Ah⟩<|⟨true,z,z,(Ap hB2).below,hC2⟩
  replace hr1:=AA hr1 hc1
  refine Ak z z<|Af z z<|be hr1 fun x3 hr3 hr1=>Ak z z<|cb Di z z (c_S_IsVar a1 x3 hr3) fun w3 hB3=>have hC3:=hC2.grow hB3;AY z z z<|Ae z z<|Ab<|?_
  obtain rfl:=Aa hr1
  exact An (l':=[(2,(.bool x3))]) ⟨z,Ah⟩<|⟨x3,z,z,((Ap hB2).then hB3).below,hC3⟩
 rintro _ w1 ⟨x1,rfl,rfl,hB1,hC1⟩
 try dsimp only at hF
 refine AC ?_
 obtain rfl:=Aa hF
 exact Ay z z<|⟨_,z,AD hC1 _⟩
theorem c_S_IsAtom {w0:World} (a1:(List Int)) (u1:Value) (g1:RO [] w0 u1 a1) (a2:(Int × (List Int))) (u2:Value) (g2:RO [] w0 u2 a2.2) (rr:Bool) (hF:S.IsAtom a1 a2=some rr) :
 Calls Tryz.prog 126 [u1,(.agg #[(I a2.1),u2])].toArray w0 fun e w'=>∃v,e=.returned v∧Res w0 rr v w':=by
 refine Aw Tryz.func126 z z ?_
 have hC0:=A1 w0
 unfold S.IsAtom at hF
 refine Ac<|Bb (cs:=[(I a2.1),u2]) hC0 z z z fun b1 w1 hC1 hB1 hN1=>Ae z z<|Ab<|A0<|be hF fun r1 hr1 hF=>BH (fun l w=>∃x1:Bool,x1=r1∧l=[(3,(ptr b1 0)),(28,(.bool x1))]∧Below w1.heap.size w1 w∧Ctx [] w0 w [Ai b1 [(I a2.1),u2]]) ?_ ?_
 ·refine W_drawn 23 z hmix fun w3 hB3=>have hC3:=hC1.grow hB3;tm 0 z z z<|be hr1 fun x2 hr2 hr1=>oe 1 z<|cb CE z z (c_S_IsSchema a1 u1 (g1.now hC3.keep) x2 hr2) fun w4 hB4=>have hC4:=hC3.grow hB4;Ab<|tk 2 z z (Cs z)<|Bw z z<|Ab<|tm 3 z z z<|BP (fun hc1=>?_) (fun hc1=>?_)
  ·replace hr1:=A9 hr1 hc1
   refine sk 4 z z z z z<|sk 5 z z z z z<|sk 6 z z z z z<|sk 7 z z z z z<|sk 8 z z z z z<|sk 9 z z z z z<|sk 10 z z z z z<|tp 11 z z z z<|tm 12 z z z<|sk 13 z z z z z<|sk 14 z z z z z<|sk 15 z z z z z<|sk 16 z z z z z<|sk 17 z z z z z<|sk 18 z z z z z<|sk 19 z z z z z<|sk 20 z z z z z<|sk 21 z z z z z<|tp 22 z z z z<|dn<|?_
   obtain rfl:=Aa hr1
   exact An (l':=[(3,(ptr b1 0)),(28,(.bool true))]) ⟨z,z,Ah⟩<|⟨true,z,z,((Ap hB3).then hB4).below,hC4⟩
  replace hr1:=AA hr1 hc1
  refine tg 4 z z z z (BG AZ z z (fun w=>⟨_,A5 w⟩) z)<|Ak z z<|fd AZ A5 z z z z<|Ab<|tn 6 z z z z z<|tg 7 z z z z (fl_len Ag g1 z)<|Ak z z<|AL Ag g1 z z<|Ab<|tg 8 z z z z (Dv z z)<|Ak z z<|Cv z z z<|Ab<|oe 5 z<|Ak z z<|Al hC4 0 z z AV z z<|Ab<|be hr1 fun x3 hr3 hr1=>oe 9 z<|Ak z z<|cb BN z z (c_S_l1In a2.1 0 (w64 ((List.length a1:Int) - 1)) x3 hr3) fun w5 hB5=>have hC5:=hC4.grow hB5;Ab<|tg 10 z z z z (Cs z)<|Ak z z<|Bw z z<|Ab<|tq 11 z z z z<|tm 12 z z z<|BP (fun hc2=>?_) (fun hc2=>?_)
  ·replace hr1:=A9 hr1 hc2
   refine sk 13 z z z z z<|sk 14 z z z z z<|sk 15 z z z z z<|sk 16 z z z z z<|sk 17 z z z z z<|sk 18 z z z z z<|sk 19 z z z z z<|sk 20 z z z z z<|sk 21 z z z z z<|tp 22 z z z z<|dn<|?_
   obtain rfl:=Aa hr1
   exact An (l':=[(3,(ptr b1 0)),(28,(.bool true))]) ⟨z,z,Ah⟩<|⟨true,z,z,(((Ap hB3).then hB4).then hB5).below,hC5⟩
  replace hr1:=AA hr1 hc2
  refine tg 13 z z z z (BG AZ z z (fun w=>⟨_,Au w⟩) z)<|Ak z z<|fd AZ Au z z z z<|Ab<|tn 16 z z z z z<|tg 17 z z z z (BG AZ z z (fun w=>⟨_,A5 w⟩) z)<|Ak z z<|fd AZ A5 z z z z<|Ab<|be hr1 fun x4 hx1 hr1=>wAS (l':=[(0,u1),(1,(.agg #[(I a2.1),u2])),(3,(ptr b1 0)),(4,(.bool false)),(6,u1),(7,(.bool x2)),(8,(.bool (!x2))),(9,(.bool false)),(10,(ptr b1 0)),(11,(I a2.1)),(12,u1),(13,(I (List.length a1:Int))),(14,(I (w64 ((List.length a1:Int) - 1)))),(15,(.bool x3)),(16,(.bool (!x3))),(17,(.bool (!x3))),(18,(.bool false)),(19,(ptr b1 1)),(22,u1),(23,(ptr b1 0))]) ⟨z,z,z,z,z,z,z,z,z,z,z,z,z,z,z,z,z,z,z,z,Ah⟩<|Bq [⟨14,[],fun vs=>Bg u2,[]⟩,⟨15,[],fun vs=>Bg (I (List.length a2.2:Int)),[]⟩,⟨18,[],fun vs=>Bg (I a2.1),[]⟩,⟨19,[],fun vs=>Cj [] w0 x4,[]⟩,⟨20,[],fun vs=>Bg (I x4),[]⟩] [[],[14],[],[18],[19]] 2 z (by kernel_rfl) (by kernel_rfl) z ?_ ?_
  ·refine Aq z ?_ ?_
   ·intro w6 hB6
    refine Ax<|⟨_,z,?_⟩
    exact Ak z z<|Al (hC5.grow hB6) 0 z z At z z<|Ab<|A3 (Am _ _) z z ⟨z,z⟩
   refine Aq z ?_ ?_
   ·intro w6 hB6
    refine AN z z z ?_
    rintro _ _ ⟨rfl,rfl⟩ _
    refine Ax<|⟨_,z,?_⟩
    exact Ak z z<|AL Ag g2 z z<|Ab<|A3 (Am _ _) z z ⟨z,z⟩
   refine Aq z ?_ ?_
   ·intro w6 hB6
    refine Ax<|⟨_,z,?_⟩
    exact Ak z z<|Al (hC5.grow hB6) 0 z z AV z z<|Ab<|A3 (Am _ _) z z ⟨z,z⟩
   refine Aq z ?_ ?_
   ·intro w6 hB6
    refine AN z z z ?_
    rintro _ _ ⟨rfl,rfl⟩ _
    refine Ax<|⟨_,z,?_⟩
    exact Ak z z<|AE Ag ty3 g1 hx1 z z z fun b2 o1 h1=>Ab<|A3 (Am _ _) z z ⟨z,_,_,z,h1⟩
   refine Aq z ?_ ?_
   ·intro w6 hB6
    refine AN z z z ?_
    rintro _ _ ⟨rfl,b2,o1,rfl,h1⟩ _
    refine Ax<|⟨_,z,?_⟩
    refine Ak z z<|AH ty3 h1 (hC5.keep.then hB6) z z fun v1 h2=>?_
    obtain rfl:=By h2
    exact Ab<|A3 (Am _ _) z z ⟨z,z⟩
   exact Bl
  intro w7 hB7
  refine Av z z z ?_
  rintro _ _ ⟨rfl,rfl⟩
  refine Av z z z ?_
  rintro _ _ ⟨rfl,rfl⟩
  refine Av z z z ?_
  rintro _ _ ⟨rfl,rfl⟩
  refine Av z z z ?_
  rintro _ _ ⟨rfl,b2,o1,rfl,h1⟩
  refine Av z z z ?_
  rintro _ _ ⟨rfl,rfl⟩
  refine Bv fun hn1 hb1=>have hC6:=hC5.grow hB7;tg 21 z z z z (CZ z z)<|Ak z z<|BI z z z<|Ab<|tq 22 z z z z<|dn<|?_
  obtain rfl:=Aa hr1
  exact An (l':=[(3,(ptr b1 0)),(28,(.bool (!decide ((List.length a2.2:Int)=x4))))]) ⟨z,z,Ah⟩<|⟨(!decide ((List.length a2.2:Int)=x4)),z,z,((((Ap hB3).then hB4).then hB5).then hB7).below,hC6⟩
 rintro _ w2 ⟨x1,rfl,rfl,hB2,hC2⟩
 try dsimp only at hF
 refine A7 z (fun hc3=>?_) (fun hc3=>?_)
 ·replace hF:=A9 hF hc3
  refine Ac<|Ae z z<|Ab<|AC<|Ar<|?_
  obtain rfl:=Aa hF
  exact Ay z z<|⟨_,z,AD hC2 _⟩
 replace hF:=AA hF hc3
 refine A6<|Aj<|A0<|Ac<|Ae z z<|Ab<|be hF fun r2 hr4 hF=>Bf (fun l w=>.inl ()=r2∧l=[]∧Below w2.heap.size w2 w∧Ctx [] w0 w []) ?_ ?_
 ·refine AB<|wS (l':=[(3,(ptr b1 0)),(5,(I 0))]) ⟨z,z,Ah⟩<|Bo (fun k l w=>∃x5:Int,l=[(3,(ptr b1 0)),(5,(I x5))]∧Below w2.heap.size w2 w∧Ctx [] w0 w [Ai b1 [(I a2.1),u2]]∧S.IsAtom_l1 a2 k x5=some r2) FUEL ⟨0,z,(Am _ _),hC2,hr4⟩<|?_
  clear hr4
  rintro k1 _ w9 ⟨x5,rfl,hB8,hC7,hL1⟩
  cases k1 with
  | zero=>rw [S.IsAtom_l1] at hL1; cases hL1
  | succ k1 =>
   rw [S.IsAtom_l1] at hL1
   refine A0<|Ac<|Af z z<|fd AZ Au z z z z<|Al hC7 0 z z At z z<|AL Ag g2 z z<|AW z z z<|Ab<|A7 z (fun hc4=>?_) (fun hc4=>?_)
   ·replace hL1:=A9 hL1 hc4
    refine A6<|Aj<|A0<|AB<|Ac<|fd AZ Au z z z z<|Al hC7 0 z z At z z<|Af z z<|be hL1 fun x6 hx2 hL1=>AE Ag ty3 g2 hx2 z z z fun b3 o2 h3=>AH ty3 h3 hC7.keep z z fun v2 h4=>?_
    obtain rfl:=By h4
    refine be hL1 fun x7 hr5 hL1=>cb Tryz.call179 z z (c_S_IsTerm x6 x7 hr5) fun w10 hB9=>have hC8:=hC7.grow hB9;Bw z z<|Ab<|A7 z (fun hc5=>?_) (fun hc5=>?_)
    ·replace hL1:=A9 hL1 hc5
     refine Ac<|Ae z z<|Ab<|AC<|AU<|Ar<|Ar<|AU<|Ar<|Ar<|?_
     obtain rfl:=Aa hL1
     dsimp only at hF
     obtain rfl:=Aa hF
     exact Ay z z<|⟨_,z,AD hC8 _⟩
    replace hL1:=AA hL1 hc5
    exact A6<|AJ<|Aj<|AX<|Af z z<|Be z z z<|Ae z z<|Ab<|An (l':=[(3,(ptr b1 0)),(5,(I (w64 (x5+1))))]) ⟨z,z,Ah⟩<|⟨k1,Az _,w64 (x5+1),z,((Ap hB8).then hB9).below,hC8,hL1⟩
   replace hL1:=AA hL1 hc4
   refine Bm (A2 (A2 (AT ?_)))
   obtain rfl:=Aa hL1
   have hC9:=hC7.h0
   exact An (l':=[]) Ah<|⟨z,z,(Ap hB8).below,hC9⟩
 rintro l3 _ w11 hs3 ⟨rfl,rfl,hB10,hC10⟩
 try dsimp only at hF
 refine AO hs3 ?_
 clear hs3
 refine Ac<|Ae z z<|Ab<|AC<|?_
 obtain rfl:=Aa hF
 exact Ay z z<|⟨_,z,AD hC10 _⟩
theorem c_S_IsQuery {w0:World} (a1:(List Int)) (u1:Value) (g1:RO [] w0 u1 a1) (a2:((List Int) × (List (Int × (List Int))))) (u2:Value) (g2:RO [] w0 u2 a2.1) (u3:Value) (g3:RO [] w0 u3 a2.2) (rr:Bool) (hF:S.IsQuery a1 a2=some rr) :
 Calls Tryz.prog 69 [u1,(.agg #[u2,u3])].toArray w0 fun e w'=>∃v,e=.returned v∧Res w0 rr v w':=by
 refine Aw Tryz.func69 z z ?_
 have hC0:=A1 w0
 unfold S.IsQuery at hF
 refine Ac<|Bb (cs:=[u2,u3]) hC0 z z z fun b1 w1 hC1 hB1 hN1=>Ae z z<|Ab<|A0<|Ac<|Ae z z<|Ab<|be hF fun r1 hr1 hF=>Bf (fun l w=>.inl ()=r1∧l=[(0,u1),(3,(ptr b1 0))]∧Below w1.heap.size w1 w∧Ctx [] w0 w [Ai b1 [u2,u3]]) ?_ ?_
 ·refine AB<|wS (l':=[(0,u1),(3,(ptr b1 0)),(5,(I 0))]) ⟨z,z,z,Ah⟩<|Bo (fun k l w=>∃x1:Int,l=[(0,u1),(3,(ptr b1 0)),(5,(I x1))]∧Below w1.heap.size w1 w∧Ctx [] w0 w [Ai b1 [u2,u3]]∧S.IsQuery_l1 a2 a1 k x1=some r1) FUEL ⟨0,z,(Am _ _),hC1,hr1⟩<|?_
  clear hr1
  rintro k1 _ w2 ⟨x1,rfl,hB2,hC2,hL1⟩
  cases k1 with
  | zero=>rw [S.IsQuery_l1] at hL1; cases hL1
  | succ k1 =>
   rw [S.IsQuery_l1] at hL1
   refine A0<|Ac<|Af z z<|fd Bn BB z z z z<|Al hC2 0 z z BK z z<|AL Bp g3 z z<|AW z z z<|Ab<|A7 z (fun hc1=>?_) (fun hc1=>?_)
   ·replace hL1:=A9 hL1 hc1
    refine A6<|Aj<|A0<|AB<|Ac<|Af z z<|fd Bn BB z z z z<|Al hC2 0 z z BK z z<|Af z z<|be hL1 fun x2 hx1 hL1=>AE Bp ty93 g3 hx1 z z z fun b2 o1 h1=>AH ty93 h1 hC2.keep z z fun v1 h2=>?_
    obtain ⟨v2,rfl,h3⟩:=Du h2
    refine be hL1 fun x3 hr2 hL1=>cb Tryz.call126 z z (c_S_IsAtom a1 u1 (g1.now hC2.keep) x2 v2 (h3.now hC2.keep) x3 hr2) fun w3 hB3=>have hC3:=hC2.grow hB3;Bw z z<|Ab<|A7 z (fun hc2=>?_) (fun hc2=>?_)
    ·replace hL1:=A9 hL1 hc2
     refine Ac<|Ae z z<|Ab<|AC<|AU<|Ar<|Ar<|AU<|Ar<|Ar<|?_
     obtain rfl:=Aa hL1
     dsimp only at hF
     obtain rfl:=Aa hF
     exact Ay z z<|⟨_,z,AD hC3 _⟩
    replace hL1:=AA hL1 hc2
    exact A6<|AJ<|Aj<|AX<|Af z z<|Be z z z<|Ae z z<|Ab<|An (l':=[(0,u1),(3,(ptr b1 0)),(5,(I (w64 (x1+1))))]) ⟨z,z,z,Ah⟩<|⟨k1,Az _,w64 (x1+1),z,((Ap hB2).then hB3).below,hC3,hL1⟩
   replace hL1:=AA hL1 hc1
   refine Bm (A2 (A2 (AT ?_)))
   obtain rfl:=Aa hL1
   exact An (l':=[(0,u1),(3,(ptr b1 0))]) ⟨z,z,Ah⟩<|⟨z,z,(Ap hB2).below,hC2⟩
 rintro l2 _ w4 hs2 ⟨rfl,rfl,hB4,hC4⟩
 try dsimp only at hF
 refine AO hs2 ?_
 clear hs2
 refine Ac<|A4 [u2,u3] hC4 0 z z z BL BC z z<|be hF fun x4 hr3 hF=>Bc Tryz.call118 z z (c_S_VarsOf (a2.1,a2.2) u2 (g2.now hC4.keep) u3 (g3.now hC4.keep) x4 hr3)<|?_
 rintro v3 w5 ⟨hB5,F1,hv2,hn1,hb1⟩
 have hC5:=hC4.push hB5 (A:=Ad v3 x4) hv2 hn1 hb1
 refine Ae z z<|Ab<|A0<|Ac<|Ae z z<|Ab<|be hF fun r2 hr4 hF=>Bf (fun l w=>.inl ()=r2∧l=[(0,u1),(3,(ptr b1 0))]∧Below w5.heap.size w5 w∧Ctx [] w0 w [Ai b1 [u2,u3]]) ?_ ?_
 ·refine AB<|wS (l':=[(0,u1),(3,(ptr b1 0)),(6,v3),(7,(I 0))]) ⟨z,z,z,z,Ah⟩<|Bo (fun k l w=>∃x5:Int,l=[(0,u1),(3,(ptr b1 0)),(6,v3),(7,(I x5))]∧Below w5.heap.size w5 w∧Ctx [] w0 w [Ad v3 (x4:(List Int)),Ai b1 [u2,u3]]∧S.IsQuery_l2 a2 x4 k x5=some r2) FUEL ⟨0,z,(Am _ _),hC5,hr4⟩<|?_
  clear hr4
  rintro k2 _ w6 ⟨x5,rfl,hB6,hC6,hL2⟩
  cases k2 with
  | zero=>rw [S.IsQuery_l2] at hL2; cases hL2
  | succ k2 =>
   rw [S.IsQuery_l2] at hL2
   refine A0<|Ac<|Af z z<|fd Bn Au z z z z<|Al hC6 1 z z At z z<|AL Ag g2 z z<|AW z z z<|Ab<|A7 z (fun hc3=>?_) (fun hc3=>?_)
   ·replace hL2:=A9 hL2 hc3
    refine A6<|Aj<|A0<|AB<|Ac<|Af z z<|fd Bn Au z z z z<|Al hC6 1 z z At z z<|Af z z<|be hL2 fun x6 hx2 hL2=>AE Ag ty3 g2 hx2 z z z fun b3 o2 h4=>AH ty3 h4 hC6.keep z z fun v4 h5=>?_
    obtain rfl:=By h5
    refine be hL2 fun x7 hr5 hL2=>cb Tryz.call61 z z (c_S_l2Has x4 v3 ((hC6.ro 0 z).now (AP _ _)) x6 x7 hr5) fun w7 hB7=>have hC7:=hC6.grow hB7;Bw z z<|Ab<|A7 z (fun hc4=>?_) (fun hc4=>?_)
    ·replace hL2:=A9 hL2 hc4
     refine Ac<|Ae z z<|Ab<|AC<|AU<|Ar<|Ar<|AU<|Ar<|Ar<|?_
     obtain rfl:=Aa hL2
     dsimp only at hF
     obtain rfl:=Aa hF
     exact Ay z z<|⟨_,z,AD hC7 _⟩
    replace hL2:=AA hL2 hc4
    exact A6<|AJ<|Aj<|AX<|Af z z<|Be z z z<|Ae z z<|Ab<|An (l':=[(0,u1),(3,(ptr b1 0)),(6,v3),(7,(I (w64 (x5+1))))]) ⟨z,z,z,z,Ah⟩<|⟨k2,Az _,w64 (x5+1),z,((Ap hB6).then hB7).below,hC7,hL2⟩
   replace hL2:=AA hL2 hc3
   refine Bm (A2 (A2 (AT ?_)))
   obtain rfl:=Aa hL2
   have hC8:=hC6.f1
   have hC9:=hC8.h1
   exact An (l':=[(0,u1),(3,(ptr b1 0))]) ⟨z,z,Ah⟩<|⟨z,z,(Ap hB6).below,hC9⟩
 rintro l4 _ w9 hs4 ⟨rfl,rfl,hB8,hC10⟩
 try dsimp only at hF
 refine AO hs4 ?_
 clear hs4
 refine be hF fun r3 hr6 hF=>BH (fun l w=>∃x8:Bool,x8=r3∧l=[(4,(.bool x8))]∧Below w9.heap.size w9 w∧Ctx [] w0 w []) ?_ ?_
 ·refine AX<|Af z z<|be hr6 fun x9 hr7 hr6=>cb CE z z (c_S_IsSchema a1 u1 (g1.now hC10.keep) x9 hr7) fun w11 hB10=>have hC12:=hC10.grow hB10;Af z z<|Bz (fun hc5=>?_) (fun hc5=>?_)
  ·replace hr6:=A9 hr6 hc5
   refine Ak z z<|fd Bn BB z z z z<|Ak z z<|Al hC12 0 z z BK z z<|Ak z z<|AL Bp g3 z z<|be hr6 fun x10 hr8 hr6=>Ak z z<|cb BN z z (c_S_l1In (List.length a2.2:Int) 1 4 x10 hr8) fun w12 hB11=>have hC13:=hC12.grow hB11;Ba z z z<|Af z z<|Bz (fun hc6=>?_) (fun hc6=>?_)
   ·replace hr6:=A9 hr6 hc6
    refine Ak z z<|fd Bn Au z z z z<|Ak z z<|Al hC13 0 z z At z z<|Ak z z<|AL Ag g2 z z<|Ak z z<|CQ z z z<|Ba z z z<|Ae z z<|Ab<|?_
    obtain rfl:=Aa hr6
    have hC14:=hC13.h0
    exact An (l':=[(4,(.bool (decide ((List.length a2.1:Int) ≤ 3))))]) ⟨z,Ah⟩<|⟨(decide ((List.length a2.1:Int) ≤ 3)),z,z,((Ap hB10).then hB11).below,hC14⟩
   replace hr6:=AA hr6 hc6
   refine gs z z z z<|gs z z z z<|gs z z z z<|gs z z z z<|AY z z z<|Ae z z<|Ab<|?_
   obtain rfl:=Aa hr6
   have hC15:=hC13.h0
   exact An (l':=[(4,(.bool false))]) ⟨z,Ah⟩<|⟨false,z,z,((Ap hB10).then hB11).below,hC15⟩
  replace hr6:=AA hr6 hc5
  refine gs z z z z<|gs z z z z<|gs z z z z<|gs z z z z<|AY z z z<|Af z z<|gs z z z z<|gs z z z z<|gs z z z z<|gs z z z z<|AY z z z<|Ae z z<|Ab<|?_
  obtain rfl:=Aa hr6
  have hC16:=hC12.h0
  exact An (l':=[(4,(.bool false))]) ⟨z,Ah⟩<|⟨false,z,z,(Ap hB10).below,hC16⟩
 rintro _ w10 ⟨x8,rfl,rfl,hB9,hC11⟩
 try dsimp only at hF
 refine AC ?_
 obtain rfl:=Aa hF
 exact Ay z z<|⟨_,z,AD hC11 _⟩
end Go.Gx.Px
