/- The contracts of the Go functions against the pure functions, printed by program. Conditions: each says them. -/
import Derived.Test.YthidohmobbomfaaGreatC6
set_option linter.unusedVariables false
set_option linter.unusedSimpArgs false
set_option maxRecDepth 100000
set_option maxHeartbeats 4000000
namespace Go.Gx.Px
open Go.Proofs Go.RowKit
open K9
theorem c_Q_eqMethodS {w0:World} (a1:(List (Int × (List Int) × Int × Int × Int))) (u1:Value) (g1:RO [] w0 u1 a1) (a2:(List (Int × (List Int) × Int × Int × Int))) (u2:Value) (g2:RO [] w0 u2 a2) (rr:Bool) (hF:Q.eqMethodS a1 a2=some rr) :
 Calls Tryz.prog 36 [u1,u2].toArray w0 fun e w'=>∃v,e=.returned v∧Res w0 rr v w':=by
 refine Aw Tryz.func36 z z ?_
 have hC0:=A1 w0
 unfold Q.eqMethodS at hF
 refine Ac<|Ae z z<|Ab<|A0<|Ac<|Af z z<|AL Bi g1 z z<|Af z z<|AL Bi g2 z z<|BI z z z<|Ab<|A7 z (fun hc1=>?_) (fun hc1=>?_)
 ·replace hF:=A9 hF hc1
  refine Ac<|Ae z z<|Ab<|AC<|Ar<|?_
  obtain rfl:=Aa hF
  exact Ay z z<|⟨_,z,AD hC0 _⟩
 replace hF:=AA hF hc1
 refine A6<|Aj<|A0<|Ac<|Ae z z<|Ab<|be hF fun r1 hr1 hF=>Bf (fun l w=>.inl ()=r1∧l=[]∧Below w0.heap.size w0 w∧Ctx [] w0 w []) ?_ ?_
 ·refine AB<|wS (l':=[(0,u1),(1,u2),(5,(I 0))]) ⟨z,z,z,Ah⟩<|Bo (fun k l w=>∃x1:Int,l=[(0,u1),(1,u2),(5,(I x1))]∧Below w0.heap.size w0 w∧Ctx [] w0 w []∧Q.eqMethodS_l1 a1 a2 k x1=some r1) FUEL ⟨0,z,(Am _ _),hC0,hr1⟩<|?_
  clear hr1
  rintro k1 _ w1 ⟨x1,rfl,hB1,hC1,hL1⟩
  cases k1 with
  | zero=>rw [Q.eqMethodS_l1] at hL1; cases hL1
  | succ k1 =>
   rw [Q.eqMethodS_l1] at hL1
   refine A0<|Ac<|Af z z<|Af z z<|AL Bi g1 z z<|AW z z z<|Ab<|A7 z (fun hc2=>?_) (fun hc2=>?_)
   ·replace hL1:=A9 hL1 hc2
    refine A6<|Aj<|A0<|AB<|A0<|W_drawn 10 z hmix fun w2 hB2=>have hC2:=hC1.grow hB2;tm 0 z z z<|tm 1 z z z<|be hL1 fun x2 hx1 hL1=>tk 2 z z (B8 Bi ty110 g1 hx1 z z)<|AE Bi ty110 g1 hx1 z z z fun b1 o1 h1=>Ab<|tm 4 z z z<|tm 5 z z z<|be hL1 fun x3 hx2 hL1=>tk 6 z z (B8 Bi ty110 g2 hx2 z z)<|AE Bi ty110 g2 hx2 z z z fun b2 o2 h2=>Ab<|wAS (l':=[(0,u1),(1,u2),(5,(I x1)),(11,(I x1)),(12,u1),(13,(I (List.length a1:Int))),(14,(.bool (decide (x1 < (List.length a1:Int))))),(17,u1),(18,(I x1)),(19,(ptr b1 o1)),(21,u2),(22,(I x1)),(23,(ptr b2 o2))]) ⟨z,z,z,z,z,z,z,z,z,z,z,z,z,Ah⟩<|Bq [⟨3,[],fun vs=>Cc [] w0 x2,[]⟩,⟨7,[],fun vs=>Cc [] w0 x3,[]⟩] [[],[]] 2 z (by kernel_rfl) (by kernel_rfl) z ?_ ?_
    ·refine Aq z ?_ ?_
     ·intro w3 hB3
      refine Ax<|⟨_,z,?_⟩
      exact AH ty110 h1 (hC2.keep.then hB3) z z fun v3 h5=>Ab<|A3 (Am _ _) z z ⟨z,h5⟩
     refine Aq z ?_ ?_
     ·intro w3 hB3
      refine Ax<|⟨_,z,?_⟩
      exact AH ty110 h2 (hC2.keep.then hB3) z z fun v6 h8=>Ab<|A3 (Am _ _) z z ⟨z,h8⟩
     exact Bl
    intro w4 hB4
    refine Av z z z ?_
    rintro v3 _ ⟨rfl,h5⟩
    obtain ⟨v2,rfl,h4⟩:=CX h5
    refine Av z z z ?_
    rintro v6 _ ⟨rfl,h8⟩
    obtain ⟨v5,rfl,h7⟩:=CX h8
    refine Bv fun hn1 hb1=>have hC3:=hC2.grow hB4;be hL1 fun x4 hr2 hL1=>oe 8 z<|cb Tryz.call79 z z (c_Q_eqMethod x2 v2 (h4.now hC3.keep) x3 v5 (h7.now hC3.keep) x4 hr2) fun w5 hB5=>have hC4:=hC3.grow hB5;Ab<|tk 9 z z (Cs z)<|Bw z z<|Ab<|dn<|Aj<|A7 z (fun hc3=>?_) (fun hc3=>?_)
    ·replace hL1:=A9 hL1 hc3
     refine Ac<|Ae z z<|Ab<|AC<|AU<|Ar<|Ar<|AU<|Ar<|Ar<|?_
     obtain rfl:=Aa hL1
     dsimp only at hF
     obtain rfl:=Aa hF
     exact Ay z z<|⟨_,z,AD hC4 _⟩
    replace hL1:=AA hL1 hc3
    exact A6<|AJ<|Aj<|AX<|Af z z<|Be z z z<|Ae z z<|Ab<|An (l':=[(0,u1),(1,u2),(5,(I (w64 (x1+1))))]) ⟨z,z,z,Ah⟩<|⟨k1,Az _,w64 (x1+1),z,((((Ap hB1).then hB2).then hB4).then hB5).below,hC4,hL1⟩
   replace hL1:=AA hL1 hc2
   refine Bm (A2 (A2 (AT ?_)))
   obtain rfl:=Aa hL1
   exact An (l':=[]) Ah<|⟨z,z,(Ap hB1).below,hC1⟩
 rintro l2 _ w6 hs2 ⟨rfl,rfl,hB6,hC5⟩
 try dsimp only at hF
 refine AO hs2 ?_
 clear hs2
 refine Ac<|Ae z z<|Ab<|AC<|?_
 obtain rfl:=Aa hF
 exact Ay z z<|⟨_,z,AD hC5 _⟩
theorem c_Q_eqAtom {w0:World} (a1:(Int × (List Int))) (u1:Value) (g1:RO [] w0 u1 a1.2) (a2:(Int × (List Int))) (u2:Value) (g2:RO [] w0 u2 a2.2) (rr:Bool) (hF:Q.eqAtom a1 a2=some rr) :
 Calls Tryz.prog 135 [(.agg #[(I a1.1),u1]),(.agg #[(I a2.1),u2])].toArray w0 fun e w'=>∃v,e=.returned v∧Res w0 rr v w':=by
 refine Aw Tryz.func135 z z ?_
 have hC0:=A1 w0
 unfold Q.eqAtom at hF
 refine Ac<|Bb (cs:=[(I a1.1),u1]) hC0 z z z fun b1 w1 hC1 hB1 hN1=>Bb (cs:=[(I a2.1),u2]) hC1 z z z fun b2 w2 hC2 hB2 hN2=>Ae z z<|Ab<|A0<|Ac<|fd AZ A5 z z z z<|Al hC2 1 z z AV z z<|fd AZ A5 z z z z<|Al hC2 0 z z AV z z<|BI z z z<|Ab<|A7 z (fun hc1=>?_) (fun hc1=>?_)
 ·replace hF:=A9 hF hc1
  refine Ac<|Ae z z<|Ab<|AC<|Ar<|?_
  obtain rfl:=Aa hF
  exact Ay z z<|⟨_,z,AD hC2 _⟩
 replace hF:=AA hF hc1
 refine A6<|Aj<|A0<|Ac<|fd AZ Au z z z z<|Al hC2 1 z z At z z<|fd AZ Au z z z z<|Al hC2 0 z z At z z<|be hF fun x1 hr1 hF=>cb C3 z z (c_Q_eqIntS a1.2 u1 (g1.now hC2.keep) a2.2 u2 (g2.now hC2.keep) x1 hr1) fun w3 hB3=>have hC3:=hC2.grow hB3;Bw z z<|Ab<|A7 z (fun hc2=>?_) (fun hc2=>?_)
 ·replace hF:=A9 hF hc2
  refine Ac<|Ae z z<|Ab<|AC<|Ar<|?_
  obtain rfl:=Aa hF
  exact Ay z z<|⟨_,z,AD hC3 _⟩
 replace hF:=AA hF hc2
 refine A6<|Aj<|Ac<|Ae z z<|Ab<|AC<|?_
 obtain rfl:=Aa hF
 exact Ay z z<|⟨_,z,AD hC3 _⟩
theorem c_Q_eqAtomS {w0:World} (a1:(List (Int × (List Int)))) (u1:Value) (g1:RO [] w0 u1 a1) (a2:(List (Int × (List Int)))) (u2:Value) (g2:RO [] w0 u2 a2) (rr:Bool) (hF:Q.eqAtomS a1 a2=some rr) :
 Calls Tryz.prog 80 [u1,u2].toArray w0 fun e w'=>∃v,e=.returned v∧Res w0 rr v w':=by
 refine Aw Tryz.func80 z z ?_
 have hC0:=A1 w0
 unfold Q.eqAtomS at hF
 refine Ac<|Ae z z<|Ab<|A0<|Ac<|Af z z<|AL Bp g1 z z<|Af z z<|AL Bp g2 z z<|BI z z z<|Ab<|A7 z (fun hc1=>?_) (fun hc1=>?_)
 ·replace hF:=A9 hF hc1
  refine Ac<|Ae z z<|Ab<|AC<|Ar<|?_
  obtain rfl:=Aa hF
  exact Ay z z<|⟨_,z,AD hC0 _⟩
 replace hF:=AA hF hc1
 refine A6<|Aj<|A0<|Ac<|Ae z z<|Ab<|be hF fun r1 hr1 hF=>Bf (fun l w=>.inl ()=r1∧l=[]∧Below w0.heap.size w0 w∧Ctx [] w0 w []) ?_ ?_
 ·refine AB<|wS (l':=[(0,u1),(1,u2),(5,(I 0))]) ⟨z,z,z,Ah⟩<|Bo (fun k l w=>∃x1:Int,l=[(0,u1),(1,u2),(5,(I x1))]∧Below w0.heap.size w0 w∧Ctx [] w0 w []∧Q.eqAtomS_l1 a1 a2 k x1=some r1) FUEL ⟨0,z,(Am _ _),hC0,hr1⟩<|?_
  clear hr1
  rintro k1 _ w1 ⟨x1,rfl,hB1,hC1,hL1⟩
  cases k1 with
  | zero=>rw [Q.eqAtomS_l1] at hL1; cases hL1
  | succ k1 =>
   rw [Q.eqAtomS_l1] at hL1
   refine A0<|Ac<|Af z z<|Af z z<|AL Bp g1 z z<|AW z z z<|Ab<|A7 z (fun hc2=>?_) (fun hc2=>?_)
   ·replace hL1:=A9 hL1 hc2
    refine A6<|Aj<|A0<|AB<|A0<|W_drawn 10 z hmix fun w2 hB2=>have hC2:=hC1.grow hB2;tm 0 z z z<|tm 1 z z z<|be hL1 fun x2 hx1 hL1=>tk 2 z z (B8 Bp ty93 g1 hx1 z z)<|AE Bp ty93 g1 hx1 z z z fun b1 o1 h1=>Ab<|tm 4 z z z<|tm 5 z z z<|be hL1 fun x3 hx2 hL1=>tk 6 z z (B8 Bp ty93 g2 hx2 z z)<|AE Bp ty93 g2 hx2 z z z fun b2 o2 h2=>Ab<|wAS (l':=[(0,u1),(1,u2),(5,(I x1)),(11,(I x1)),(12,u1),(13,(I (List.length a1:Int))),(14,(.bool (decide (x1 < (List.length a1:Int))))),(17,u1),(18,(I x1)),(19,(ptr b1 o1)),(21,u2),(22,(I x1)),(23,(ptr b2 o2))]) ⟨z,z,z,z,z,z,z,z,z,z,z,z,z,Ah⟩<|Bq [⟨3,[],fun vs=>Cc [] w0 x2,[]⟩,⟨7,[],fun vs=>Cc [] w0 x3,[]⟩] [[],[]] 2 z (by kernel_rfl) (by kernel_rfl) z ?_ ?_
    ·refine Aq z ?_ ?_
     ·intro w3 hB3
      refine Ax<|⟨_,z,?_⟩
      exact AH ty93 h1 (hC2.keep.then hB3) z z fun v3 h5=>Ab<|A3 (Am _ _) z z ⟨z,h5⟩
     refine Aq z ?_ ?_
     ·intro w3 hB3
      refine Ax<|⟨_,z,?_⟩
      exact AH ty93 h2 (hC2.keep.then hB3) z z fun v6 h8=>Ab<|A3 (Am _ _) z z ⟨z,h8⟩
     exact Bl
    intro w4 hB4
    refine Av z z z ?_
    rintro v3 _ ⟨rfl,h5⟩
    obtain ⟨v2,rfl,h4⟩:=Du h5
    refine Av z z z ?_
    rintro v6 _ ⟨rfl,h8⟩
    obtain ⟨v5,rfl,h7⟩:=Du h8
    refine Bv fun hn1 hb1=>have hC3:=hC2.grow hB4;be hL1 fun x4 hr2 hL1=>oe 8 z<|cb Tryz.call135 z z (c_Q_eqAtom x2 v2 (h4.now hC3.keep) x3 v5 (h7.now hC3.keep) x4 hr2) fun w5 hB5=>have hC4:=hC3.grow hB5;Ab<|tk 9 z z (Cs z)<|Bw z z<|Ab<|dn<|Aj<|A7 z (fun hc3=>?_) (fun hc3=>?_)
    ·replace hL1:=A9 hL1 hc3
     refine Ac<|Ae z z<|Ab<|AC<|AU<|Ar<|Ar<|AU<|Ar<|Ar<|?_
     obtain rfl:=Aa hL1
     dsimp only at hF
     obtain rfl:=Aa hF
     exact Ay z z<|⟨_,z,AD hC4 _⟩
    replace hL1:=AA hL1 hc3
    exact A6<|AJ<|Aj<|AX<|Af z z<|Be z z z<|Ae z z<|Ab<|An (l':=[(0,u1),(1,u2),(5,(I (w64 (x1+1))))]) ⟨z,z,z,Ah⟩<|⟨k1,Az _,w64 (x1+1),z,((((Ap hB1).then hB2).then hB4).then hB5).below,hC4,hL1⟩
   replace hL1:=AA hL1 hc2
   refine Bm (A2 (A2 (AT ?_)))
   obtain rfl:=Aa hL1
   exact An (l':=[]) Ah<|⟨z,z,(Ap hB1).below,hC1⟩
 rintro l2 _ w6 hs2 ⟨rfl,rfl,hB6,hC5⟩
 try dsimp only at hF
 refine AO hs2 ?_
 clear hs2
 refine Ac<|Ae z z<|Ab<|AC<|?_
 obtain rfl:=Aa hF
 exact Ay z z<|⟨_,z,AD hC5 _⟩
theorem c_Q_eqQuery {w0:World} (a1:((List Int) × (List (Int × (List Int))))) (u1:Value) (g1:RO [] w0 u1 a1.1) (u2:Value) (g2:RO [] w0 u2 a1.2) (a2:((List Int) × (List (Int × (List Int))))) (u3:Value) (g3:RO [] w0 u3 a2.1) (u4:Value) (g4:RO [] w0 u4 a2.2) (rr:Bool) (hF:Q.eqQuery a1 a2=some rr) :
 Calls Tryz.prog 37 [(.agg #[u1,u2]),(.agg #[u3,u4])].toArray w0 fun e w'=>∃v,e=.returned v∧Res w0 rr v w':=by
 refine Aw Tryz.func37 z z ?_
 have hC0:=A1 w0
 unfold Q.eqQuery at hF
 refine Ac<|Bb (cs:=[u1,u2]) hC0 z z z fun b1 w1 hC1 hB1 hN1=>Bb (cs:=[u3,u4]) hC1 z z z fun b2 w2 hC2 hB2 hN2=>Ae z z<|Ab<|A0<|Ac<|fd Bn Au z z z z<|Al hC2 1 z z At z z<|fd Bn Au z z z z<|Al hC2 0 z z At z z<|be hF fun x1 hr1 hF=>cb C3 z z (c_Q_eqIntS a1.1 u1 (g1.now hC2.keep) a2.1 u3 (g3.now hC2.keep) x1 hr1) fun w3 hB3=>have hC3:=hC2.grow hB3;Bw z z<|Ab<|A7 z (fun hc1=>?_) (fun hc1=>?_)
 ·replace hF:=A9 hF hc1
  refine Ac<|Ae z z<|Ab<|AC<|Ar<|?_
  obtain rfl:=Aa hF
  exact Ay z z<|⟨_,z,AD hC3 _⟩
 replace hF:=AA hF hc1
 refine A6<|Aj<|A0<|Ac<|fd Bn BB z z z z<|Al hC3 1 z z BK z z<|fd Bn BB z z z z<|Al hC3 0 z z BK z z<|be hF fun x2 hr2 hF=>cb Tryz.call80 z z (c_Q_eqAtomS a1.2 u2 (g2.now hC3.keep) a2.2 u4 (g4.now hC3.keep) x2 hr2) fun w4 hB4=>have hC4:=hC3.grow hB4;Bw z z<|Ab<|A7 z (fun hc2=>?_) (fun hc2=>?_)
 ·replace hF:=A9 hF hc2
  refine Ac<|Ae z z<|Ab<|AC<|Ar<|?_
  obtain rfl:=Aa hF
  exact Ay z z<|⟨_,z,AD hC4 _⟩
 replace hF:=AA hF hc2
 refine A6<|Aj<|Ac<|Ae z z<|Ab<|AC<|?_
 obtain rfl:=Aa hF
 exact Ay z z<|⟨_,z,AD hC4 _⟩
theorem c_Q_eqAccess {w0:World} (a1:(Int × (List Int))) (u1:Value) (g1:RO [] w0 u1 a1.2) (a2:(Int × (List Int))) (u2:Value) (g2:RO [] w0 u2 a2.2) (rr:Bool) (hF:Q.eqAccess a1 a2=some rr) :
 Calls Tryz.prog 136 [(.agg #[(I a1.1),u1]),(.agg #[(I a2.1),u2])].toArray w0 fun e w'=>∃v,e=.returned v∧Res w0 rr v w':=by
 refine Aw Tryz.func136 z z ?_
 have hC0:=A1 w0
 unfold Q.eqAccess at hF
 refine Ac<|Bb (cs:=[(I a1.1),u1]) hC0 z z z fun b1 w1 hC1 hB1 hN1=>Bb (cs:=[(I a2.1),u2]) hC1 z z z fun b2 w2 hC2 hB2 hN2=>Ae z z<|Ab<|A0<|Ac<|fd Bd A5 z z z z<|Al hC2 1 z z AV z z<|fd Bd A5 z z z z<|Al hC2 0 z z AV z z<|BI z z z<|Ab<|A7 z (fun hc1=>?_) (fun hc1=>?_)
 ·replace hF:=A9 hF hc1
  refine Ac<|Ae z z<|Ab<|AC<|Ar<|?_
  obtain rfl:=Aa hF
  exact Ay z z<|⟨_,z,AD hC2 _⟩
 replace hF:=AA hF hc1
 refine A6<|Aj<|A0<|Ac<|fd Bd Au z z z z<|Al hC2 1 z z At z z<|fd Bd Au z z z z<|Al hC2 0 z z At z z<|be hF fun x1 hr1 hF=>cb C3 z z (c_Q_eqIntS a1.2 u1 (g1.now hC2.keep) a2.2 u2 (g2.now hC2.keep) x1 hr1) fun w3 hB3=>have hC3:=hC2.grow hB3;Bw z z<|Ab<|A7 z (fun hc2=>?_) (fun hc2=>?_)
 ·replace hF:=A9 hF hc2
  refine Ac<|Ae z z<|Ab<|AC<|Ar<|?_
  obtain rfl:=Aa hF
  exact Ay z z<|⟨_,z,AD hC3 _⟩
 replace hF:=AA hF hc2
 refine A6<|Aj<|Ac<|Ae z z<|Ab<|AC<|?_
 obtain rfl:=Aa hF
 exact Ay z z<|⟨_,z,AD hC3 _⟩
theorem c_Q_eqFact {w0:World} (a1:(Int × (List Int))) (u1:Value) (g1:RO [] w0 u1 a1.2) (a2:(Int × (List Int))) (u2:Value) (g2:RO [] w0 u2 a2.2) (rr:Bool) (hF:Q.eqFact a1 a2=some rr) :
 Calls Tryz.prog 183 [(.agg #[(I a1.1),u1]),(.agg #[(I a2.1),u2])].toArray w0 fun e w'=>∃v,e=.returned v∧Res w0 rr v w':=by
 refine Aw Tryz.func183 z z ?_
 have hC0:=A1 w0
 unfold Q.eqFact at hF
 refine Ac<|Bb (cs:=[(I a1.1),u1]) hC0 z z z fun b1 w1 hC1 hB1 hN1=>Bb (cs:=[(I a2.1),u2]) hC1 z z z fun b2 w2 hC2 hB2 hN2=>Ae z z<|Ab<|A0<|Ac<|fd AF A5 z z z z<|Al hC2 1 z z AV z z<|fd AF A5 z z z z<|Al hC2 0 z z AV z z<|BI z z z<|Ab<|A7 z (fun hc1=>?_) (fun hc1=>?_)
 ·replace hF:=A9 hF hc1
  refine Ac<|Ae z z<|Ab<|AC<|Ar<|?_
  obtain rfl:=Aa hF
  exact Ay z z<|⟨_,z,AD hC2 _⟩
 replace hF:=AA hF hc1
 refine A6<|Aj<|A0<|Ac<|fd AF Au z z z z<|Al hC2 1 z z At z z<|fd AF Au z z z z<|Al hC2 0 z z At z z<|be hF fun x1 hr1 hF=>cb C3 z z (c_Q_eqIntS a1.2 u1 (g1.now hC2.keep) a2.2 u2 (g2.now hC2.keep) x1 hr1) fun w3 hB3=>have hC3:=hC2.grow hB3;Bw z z<|Ab<|A7 z (fun hc2=>?_) (fun hc2=>?_)
 ·replace hF:=A9 hF hc2
  refine Ac<|Ae z z<|Ab<|AC<|Ar<|?_
  obtain rfl:=Aa hF
  exact Ay z z<|⟨_,z,AD hC3 _⟩
 replace hF:=AA hF hc2
 refine A6<|Aj<|Ac<|Ae z z<|Ab<|AC<|?_
 obtain rfl:=Aa hF
 exact Ay z z<|⟨_,z,AD hC3 _⟩
theorem c_Q_eqFactS {w0:World} (a1:(List (Int × (List Int)))) (u1:Value) (g1:RO [] w0 u1 a1) (a2:(List (Int × (List Int)))) (u2:Value) (g2:RO [] w0 u2 a2) (rr:Bool) (hF:Q.eqFactS a1 a2=some rr) :
 Calls Tryz.prog 137 [u1,u2].toArray w0 fun e w'=>∃v,e=.returned v∧Res w0 rr v w':=by
 refine Aw Tryz.func137 z z ?_
 have hC0:=A1 w0
 unfold Q.eqFactS at hF
 refine Ac<|Ae z z<|Ab<|A0<|Ac<|Af z z<|AL Ao g1 z z<|Af z z<|AL Ao g2 z z<|BI z z z<|Ab<|A7 z (fun hc1=>?_) (fun hc1=>?_)
 ·replace hF:=A9 hF hc1
  refine Ac<|Ae z z<|Ab<|AC<|Ar<|?_
  obtain rfl:=Aa hF
  exact Ay z z<|⟨_,z,AD hC0 _⟩
 replace hF:=AA hF hc1
 refine A6<|Aj<|A0<|Ac<|Ae z z<|Ab<|be hF fun r1 hr1 hF=>Bf (fun l w=>.inl ()=r1∧l=[]∧Below w0.heap.size w0 w∧Ctx [] w0 w []) ?_ ?_
 ·refine AB<|wS (l':=[(0,u1),(1,u2),(5,(I 0))]) ⟨z,z,z,Ah⟩<|Bo (fun k l w=>∃x1:Int,l=[(0,u1),(1,u2),(5,(I x1))]∧Below w0.heap.size w0 w∧Ctx [] w0 w []∧Q.eqFactS_l1 a1 a2 k x1=some r1) FUEL ⟨0,z,(Am _ _),hC0,hr1⟩<|?_
  clear hr1
  rintro k1 _ w1 ⟨x1,rfl,hB1,hC1,hL1⟩
  cases k1 with
  | zero=>rw [Q.eqFactS_l1] at hL1; cases hL1
  | succ k1 =>
   rw [Q.eqFactS_l1] at hL1
   refine A0<|Ac<|Af z z<|Af z z<|AL Ao g1 z z<|AW z z z<|Ab<|A7 z (fun hc2=>?_) (fun hc2=>?_)
   ·replace hL1:=A9 hL1 hc2
    refine A6<|Aj<|A0<|AB<|A0<|W_drawn 10 z hmix fun w2 hB2=>have hC2:=hC1.grow hB2;tm 0 z z z<|tm 1 z z z<|be hL1 fun x2 hx1 hL1=>tk 2 z z (B8 Ao ty77 g1 hx1 z z)<|AE Ao ty77 g1 hx1 z z z fun b1 o1 h1=>Ab<|tm 4 z z z<|tm 5 z z z<|be hL1 fun x3 hx2 hL1=>tk 6 z z (B8 Ao ty77 g2 hx2 z z)<|AE Ao ty77 g2 hx2 z z z fun b2 o2 h2=>Ab<|wAS (l':=[(0,u1),(1,u2),(5,(I x1)),(11,(I x1)),(12,u1),(13,(I (List.length a1:Int))),(14,(.bool (decide (x1 < (List.length a1:Int))))),(17,u1),(18,(I x1)),(19,(ptr b1 o1)),(21,u2),(22,(I x1)),(23,(ptr b2 o2))]) ⟨z,z,z,z,z,z,z,z,z,z,z,z,z,Ah⟩<|Bq [⟨3,[],fun vs=>Cc [] w0 x2,[]⟩,⟨7,[],fun vs=>Cc [] w0 x3,[]⟩] [[],[]] 2 z (by kernel_rfl) (by kernel_rfl) z ?_ ?_
    ·refine Aq z ?_ ?_
     ·intro w3 hB3
      refine Ax<|⟨_,z,?_⟩
      exact AH ty77 h1 (hC2.keep.then hB3) z z fun v3 h5=>Ab<|A3 (Am _ _) z z ⟨z,h5⟩
     refine Aq z ?_ ?_
     ·intro w3 hB3
      refine Ax<|⟨_,z,?_⟩
      exact AH ty77 h2 (hC2.keep.then hB3) z z fun v6 h8=>Ab<|A3 (Am _ _) z z ⟨z,h8⟩
     exact Bl
    intro w4 hB4
    refine Av z z z ?_
    rintro v3 _ ⟨rfl,h5⟩
    obtain ⟨v2,rfl,h4⟩:=BM h5
    refine Av z z z ?_
    rintro v6 _ ⟨rfl,h8⟩
    obtain ⟨v5,rfl,h7⟩:=BM h8
    refine Bv fun hn1 hb1=>have hC3:=hC2.grow hB4;be hL1 fun x4 hr2 hL1=>oe 8 z<|cb Tryz.call183 z z (c_Q_eqFact x2 v2 (h4.now hC3.keep) x3 v5 (h7.now hC3.keep) x4 hr2) fun w5 hB5=>have hC4:=hC3.grow hB5;Ab<|tk 9 z z (Cs z)<|Bw z z<|Ab<|dn<|Aj<|A7 z (fun hc3=>?_) (fun hc3=>?_)
    ·replace hL1:=A9 hL1 hc3
     refine Ac<|Ae z z<|Ab<|AC<|AU<|Ar<|Ar<|AU<|Ar<|Ar<|?_
     obtain rfl:=Aa hL1
     dsimp only at hF
     obtain rfl:=Aa hF
     exact Ay z z<|⟨_,z,AD hC4 _⟩
    replace hL1:=AA hL1 hc3
    exact A6<|AJ<|Aj<|AX<|Af z z<|Be z z z<|Ae z z<|Ab<|An (l':=[(0,u1),(1,u2),(5,(I (w64 (x1+1))))]) ⟨z,z,z,Ah⟩<|⟨k1,Az _,w64 (x1+1),z,((((Ap hB1).then hB2).then hB4).then hB5).below,hC4,hL1⟩
   replace hL1:=AA hL1 hc2
   refine Bm (A2 (A2 (AT ?_)))
   obtain rfl:=Aa hL1
   exact An (l':=[]) Ah<|⟨z,z,(Ap hB1).below,hC1⟩
 rintro l2 _ w6 hs2 ⟨rfl,rfl,hB6,hC5⟩
 try dsimp only at hF
 refine AO hs2 ?_
 clear hs2
 refine Ac<|Ae z z<|Ab<|AC<|?_
 obtain rfl:=Aa hF
 exact Ay z z<|⟨_,z,AD hC5 _⟩
theorem c_Q_eqTold {w0:World} (a1:((Int × (List Int)) × (List (Int × (List Int))))) (u1:Value) (g1:RO [] w0 u1 a1.1.2) (u2:Value) (g2:RO [] w0 u2 a1.2) (a2:((Int × (List Int)) × (List (Int × (List Int))))) (u3:Value) (g3:RO [] w0 u3 a2.1.2) (u4:Value) (g4:RO [] w0 u4 a2.2) (rr:Bool) (hF:Q.eqTold a1 a2=some rr) :
 Calls Tryz.prog 81 [(.agg #[(I a1.1.1),u1,u2]),(.agg #[(I a2.1.1),u3,u4])].toArray w0 fun e w'=>∃v,e=.returned v∧Res w0 rr v w':=by
 refine Aw Tryz.func81 z z ?_
 have hC0:=A1 w0
 unfold Q.eqTold at hF
 refine Ac<|Bb (cs:=[(I a1.1.1),u1,u2]) hC0 z z z fun b1 w1 hC1 hB1 hN1=>Bb (cs:=[(I a2.1.1),u3,u4]) hC1 z z z fun b2 w2 hC2 hB2 hN2=>Ae z z<|Ab<|A0<|Ac<|fd AQ Bu z z z z<|A4 [(I a1.1.1),u1] hC2 1 z z z BZ Bu z z<|fd AQ Bu z z z z<|A4 [(I a2.1.1),u3] hC2 0 z z z BZ Bu z z<|be hF fun x1 hr1 hF=>cb Tryz.call136 z z (c_Q_eqAccess (a1.1.1,a1.1.2) u1 (g1.now hC2.keep) (a2.1.1,a2.1.2) u3 (g3.now hC2.keep) x1 hr1) fun w3 hB3=>have hC3:=hC2.grow hB3;Bw z z<|Ab<|A7 z (fun hc1=>?_) (fun hc1=>?_)
 ·replace hF:=A9 hF hc1
  refine Ac<|Ae z z<|Ab<|AC<|Ar<|?_
  obtain rfl:=Aa hF
  exact Ay z z<|⟨_,z,AD hC3 _⟩
 replace hF:=AA hF hc1
 refine A6<|Aj<|A0<|Ac<|fd AQ Bx z z z z<|Al hC3 1 z z B9 z z<|fd AQ Bx z z z z<|Al hC3 0 z z B9 z z<|be hF fun x2 hr2 hF=>cb Tryz.call137 z z (c_Q_eqFactS a1.2 u2 (g2.now hC3.keep) a2.2 u4 (g4.now hC3.keep) x2 hr2) fun w4 hB4=>have hC4:=hC3.grow hB4;Bw z z<|Ab<|A7 z (fun hc2=>?_) (fun hc2=>?_)
 ·replace hF:=A9 hF hc2
  refine Ac<|Ae z z<|Ab<|AC<|Ar<|?_
  obtain rfl:=Aa hF
  exact Ay z z<|⟨_,z,AD hC4 _⟩
 replace hF:=AA hF hc2
 refine A6<|Aj<|Ac<|Ae z z<|Ab<|AC<|?_
 obtain rfl:=Aa hF
 exact Ay z z<|⟨_,z,AD hC4 _⟩
theorem c_Q_eqToldS {w0:World} (a1:(List ((Int × (List Int)) × (List (Int × (List Int)))))) (u1:Value) (g1:RO [] w0 u1 a1) (a2:(List ((Int × (List Int)) × (List (Int × (List Int)))))) (u2:Value) (g2:RO [] w0 u2 a2) (rr:Bool) (hF:Q.eqToldS a1 a2=some rr) :
 Calls Tryz.prog 38 [u1,u2].toArray w0 fun e w'=>∃v,e=.returned v∧Res w0 rr v w':=by
 refine Aw Tryz.func38 z z ?_
 have hC0:=A1 w0
 unfold Q.eqToldS at hF
 refine Ac<|Ae z z<|Ab<|A0<|Ac<|Af z z<|AL AR g1 z z<|Af z z<|AL AR g2 z z<|BI z z z<|Ab<|A7 z (fun hc1=>?_) (fun hc1=>?_)
 ·replace hF:=A9 hF hc1
  refine Ac<|Ae z z<|Ab<|AC<|Ar<|?_
  obtain rfl:=Aa hF
  exact Ay z z<|⟨_,z,AD hC0 _⟩
 replace hF:=AA hF hc1
 refine A6<|Aj<|A0<|Ac<|Ae z z<|Ab<|be hF fun r1 hr1 hF=>Bf (fun l w=>.inl ()=r1∧l=[]∧Below w0.heap.size w0 w∧Ctx [] w0 w []) ?_ ?_
 ·refine AB<|wS (l':=[(0,u1),(1,u2),(5,(I 0))]) ⟨z,z,z,Ah⟩<|Bo (fun k l w=>∃x1:Int,l=[(0,u1),(1,u2),(5,(I x1))]∧Below w0.heap.size w0 w∧Ctx [] w0 w []∧Q.eqToldS_l1 a1 a2 k x1=some r1) FUEL ⟨0,z,(Am _ _),hC0,hr1⟩<|?_
  clear hr1
  rintro k1 _ w1 ⟨x1,rfl,hB1,hC1,hL1⟩
  cases k1 with
  | zero=>rw [Q.eqToldS_l1] at hL1; cases hL1
  | succ k1 =>
   rw [Q.eqToldS_l1] at hL1
   refine A0<|Ac<|Af z z<|Af z z<|AL AR g1 z z<|AW z z z<|Ab<|A7 z (fun hc2=>?_) (fun hc2=>?_)
   ·replace hL1:=A9 hL1 hc2
    refine A6<|Aj<|A0<|AB<|A0<|W_drawn 10 z hmix fun w2 hB2=>have hC2:=hC1.grow hB2;tm 0 z z z<|tm 1 z z z<|be hL1 fun x2 hx1 hL1=>tk 2 z z (B8 AR ty84 g1 hx1 z z)<|AE AR ty84 g1 hx1 z z z fun b1 o1 h1=>Ab<|tm 4 z z z<|tm 5 z z z<|be hL1 fun x3 hx2 hL1=>tk 6 z z (B8 AR ty84 g2 hx2 z z)<|AE AR ty84 g2 hx2 z z z fun b2 o2 h2=>Ab<|wAS (l':=[(0,u1),(1,u2),(5,(I x1)),(11,(I x1)),(12,u1),(13,(I (List.length a1:Int))),(14,(.bool (decide (x1 < (List.length a1:Int))))),(17,u1),(18,(I x1)),(19,(ptr b1 o1)),(21,u2),(22,(I x1)),(23,(ptr b2 o2))]) ⟨z,z,z,z,z,z,z,z,z,z,z,z,z,Ah⟩<|Bq [⟨3,[],fun vs=>Cc [] w0 x2,[]⟩,⟨7,[],fun vs=>Cc [] w0 x3,[]⟩] [[],[]] 2 z (by kernel_rfl) (by kernel_rfl) z ?_ ?_
    ·refine Aq z ?_ ?_
     ·intro w3 hB3
      refine Ax<|⟨_,z,?_⟩
      exact AH ty84 h1 (hC2.keep.then hB3) z z fun v4 h6=>Ab<|A3 (Am _ _) z z ⟨z,h6⟩
     refine Aq z ?_ ?_
     ·intro w3 hB3
      refine Ax<|⟨_,z,?_⟩
      exact AH ty84 h2 (hC2.keep.then hB3) z z fun v8 h10=>Ab<|A3 (Am _ _) z z ⟨z,h10⟩
     exact Bl
    intro w4 hB4
    refine Av z z z ?_
    rintro v4 _ ⟨rfl,h6⟩
    obtain ⟨v2,v3,rfl,h4,h5⟩:=C0 h6
    refine Av z z z ?_
    rintro v8 _ ⟨rfl,h10⟩
    obtain ⟨v6,v7,rfl,h8,h9⟩:=C0 h10
    refine Bv fun hn1 hb1=>have hC3:=hC2.grow hB4;be hL1 fun x4 hr2 hL1=>oe 8 z<|cb Tryz.call81 z z (c_Q_eqTold x2 v2 (h4.now hC3.keep) v3 (h5.now hC3.keep) x3 v6 (h8.now hC3.keep) v7 (h9.now hC3.keep) x4 hr2) fun w5 hB5=>have hC4:=hC3.grow hB5;Ab<|tk 9 z z (Cs z)<|Bw z z<|Ab<|dn<|Aj<|A7 z (fun hc3=>?_) (fun hc3=>?_)
    ·replace hL1:=A9 hL1 hc3
     refine Ac<|Ae z z<|Ab<|AC<|AU<|Ar<|Ar<|AU<|Ar<|Ar<|?_
     obtain rfl:=Aa hL1
     dsimp only at hF
     obtain rfl:=Aa hF
     exact Ay z z<|⟨_,z,AD hC4 _⟩
    replace hL1:=AA hL1 hc3
    exact A6<|AJ<|Aj<|AX<|Af z z<|Be z z z<|Ae z z<|Ab<|An (l':=[(0,u1),(1,u2),(5,(I (w64 (x1+1))))]) ⟨z,z,z,Ah⟩<|⟨k1,Az _,w64 (x1+1),z,((((Ap hB1).then hB2).then hB4).then hB5).below,hC4,hL1⟩
   replace hL1:=AA hL1 hc2
   refine Bm (A2 (A2 (AT ?_)))
   obtain rfl:=Aa hL1
   exact An (l':=[]) Ah<|⟨z,z,(Ap hB1).below,hC1⟩
 rintro l2 _ w6 hs2 ⟨rfl,rfl,hB6,hC5⟩
 try dsimp only at hF
 refine AO hs2 ?_
 clear hs2
 refine Ac<|Ae z z<|Ab<|AC<|?_
 obtain rfl:=Aa hF
 exact Ay z z<|⟨_,z,AD hC5 _⟩
theorem c_Q_markIntS {w0:World} {Fs:List (List Nat)} (a1:(List Int)) (u1:Value) (a2:Int) (hH:Hold [Ad u1 (a1:(List Int))] w0 Fs) (hn:Fs.flatten.Nodup) (rr:(Int × (List Int))) (hF:Q.markIntS a1 a2=some rr) :
 Calls Tryz.prog 39 [u1,(I a2)].toArray w0 fun e w'=>∃v,e=.returned v∧v=(I rr.1)∧Ctx Fs.flatten w0 w' [Ad u1 (rr.2:(List Int))]:=by
 refine Aw Tryz.func39 z z ?_
 have hC0:=BV hH hn
 unfold Q.markIntS at hF
 refine Ac<|Ae z z<|Ab<|A0<|Ac<|Ae z z<|Ab<|be hF fun r1 hr1 hF=>Bf (fun l w=>∃x4:(List Int),∃x5:Int,(x4,x5)=r1∧l=[(1,(I x5))]∧Ctx Fs.flatten w0 w [Ad u1 (x4:(List Int))]) ?_ ?_
 ·refine AB<|wS (l':=[(0,u1),(1,(I a2)),(5,(I 0))]) ⟨z,z,z,Ah⟩<|Bo (fun k l w=>∃x1:(List Int),∃x2:Int,∃x3:Int,l=[(0,u1),(1,(I x2)),(5,(I x3))]∧Ctx Fs.flatten w0 w [Ad u1 (x1:(List Int))]∧Q.markIntS_l1 k x1 x2 x3=some r1) FUEL ⟨a1,a2,0,z,hC0,hr1⟩<|?_
  clear hr1
  rintro k1 _ w1 ⟨x1,x2,x3,rfl,hC1,hL1⟩
  cases k1 with
  | zero=>rw [Q.markIntS_l1] at hL1; cases hL1
  | succ k1 =>
   rw [Q.markIntS_l1] at hL1
   refine A0<|Ac<|Af z z<|Af z z<|AL Ag (hC1.ro 0 z) z z<|AW z z z<|Ab<|A7 z (fun hc1=>?_) (fun hc1=>?_)
   ·replace hL1:=A9 hL1 hc1
    refine A6<|Aj<|A0<|AB<|Ac<|Af z z<|Af z z<|Af z z<|be hL1 fun x6 hx1 hL1=>BD hC1 0 z Ag ty3 hx1 z z z fun b1 hE1=>?_
    have hC3:=hC1.triv (B2 (x2))
    refine Cz hC3 0 z ty3 hE1 hx1 z z z (fun w2 hC2=>?_)
    try dsimp only [List.set] at hC2
    exact Ab<|AX<|Af z z<|Be z z z<|Ae z z<|Ab<|AJ<|Aj<|AX<|Af z z<|Be z z z<|Ae z z<|Ab<|An (l':=[(0,u1),(1,(I (w64 (x2+1)))),(5,(I (w64 (x3+1))))]) ⟨z,z,z,Ah⟩<|⟨k1,Az _,(List.set x1 (Int.toNat x3) x2),w64 (x2+1),w64 (x3+1),z,hC2,hL1⟩
   replace hL1:=AA hL1 hc1
   refine Bm (A2 (A2 (AT ?_)))
   obtain rfl:=Aa hL1
   exact An (l':=[(1,(I x2))]) ⟨z,Ah⟩<|⟨x1,x2,z,z,hC1⟩
 rintro l2 _ w3 hs2 ⟨x4,x5,rfl,rfl,hC4⟩
 try dsimp only at hF
 refine AO hs2 ?_
 clear hs2
 refine Ac<|Af z z<|Ae z z<|Ab<|AC<|?_
 obtain rfl:=Aa hF
 exact Ay z z<|⟨_,z,z,hC4⟩
theorem c_Q_markMethodS {w0:World} {Fs:List (List Nat)} (a1:(List (Int × (List Int) × Int × Int × Int))) (u1:Value) (a2:Int) (hH:Hold [Ad u1 (a1:(List (Int × (List Int) × Int × Int × Int)))] w0 Fs) (hn:Fs.flatten.Nodup) (rr:(Int × (List (Int × (List Int) × Int × Int × Int)))) (hF:Q.markMethodS a1 a2=some rr) :
 Calls Tryz.prog 40 [u1,(I a2)].toArray w0 fun e w'=>∃v,e=.returned v∧v=(I rr.1)∧Ctx Fs.flatten w0 w' [Ad u1 (rr.2:(List (Int × (List Int) × Int × Int × Int)))]:=by
 refine Aw Tryz.func40 z z ?_
 have hC0:=BV hH hn
 unfold Q.markMethodS at hF
 refine Ac<|Ae z z<|Ab<|A0<|Ac<|Ae z z<|Ab<|be hF fun r1 hr1 hF=>Bf (fun l w=>∃x4:(List (Int × (List Int) × Int × Int × Int)),∃x5:Int,(x4,x5)=r1∧l=[(1,(I x5))]∧Ctx Fs.flatten w0 w [Ad u1 (x4:(List (Int × (List Int) × Int × Int × Int)))]) ?_ ?_
 ·refine AB<|wS (l':=[(0,u1),(1,(I a2)),(5,(I 0))]) ⟨z,z,z,Ah⟩<|Bo (fun k l w=>∃x1:(List (Int × (List Int) × Int × Int × Int)),∃x2:Int,∃x3:Int,l=[(0,u1),(1,(I x2)),(5,(I x3))]∧Ctx Fs.flatten w0 w [Ad u1 (x1:(List (Int × (List Int) × Int × Int × Int)))]∧Q.markMethodS_l1 k x1 x2 x3=some r1) FUEL ⟨a1,a2,0,z,hC0,hr1⟩<|?_
  clear hr1
  rintro k1 _ w1 ⟨x1,x2,x3,rfl,hC1,hL1⟩
  cases k1 with
  | zero=>rw [Q.markMethodS_l1] at hL1; cases hL1
  | succ k1 =>
   rw [Q.markMethodS_l1] at hL1
   refine A0<|Ac<|Af z z<|Af z z<|AL Bi (hC1.ro 0 z) z z<|AW z z z<|Ab<|A7 z (fun hc1=>?_) (fun hc1=>?_)
   ·replace hL1:=A9 hL1 hc1
    refine A6<|Aj<|A0<|AB<|Ac<|Af z z<|Af z z<|Af z z<|be hL1 fun x6 hx1 hL1=>BD hC1 0 z Bi ty110 hx1 z z z fun b1 hE1=>fd AK A5 z z z z<|?_
    obtain ⟨cs1,hC3⟩:=hC1.openElem hx1
    obtain ⟨v1,he1,hC4⟩:=st110_own (hC3.cellsOwn z)
    obtain rfl:=cells_of_agg he1
    refine Ct (fo:=0) (cs':=[(I x2),v1,(I x6.2.2.1),(I x6.2.2.2.1),(I x6.2.2.2.2)]) hC4 1 z hE1 z z z z A5 z z (fun w2 hC2=>?_)
    try dsimp only [List.set] at hC2
    have hC5:=hC2.f1
    have hC7:=hC5.f1
    have hC6:=CP x2 v1 x6.2.1 x6.2.2.1 x6.2.2.2.1 x6.2.2.2.2 hC7
    have hC8:=hC6.ownCells.closeElem
    refine Ab<|Ac<|Af z z<|Be z z z<|Ae z z<|Ab<|Ac<|Af z z<|Af z z<|be hL1 fun x7 hx2 hL1=>BD hC8 0 z Bi ty110 hx2 z z z fun b2 hE2=>fd AK Au z z z z<|?_
    obtain ⟨cs2,hC9⟩:=hC8.openElem hx2
    obtain ⟨v2,he2,hC10⟩:=st110_own (hC9.cellsOwn z)
    obtain rfl:=cells_of_agg he2
    refine C8 (fo:=1) hC10 1 z hE2 z z At z z<|Af z z<|be hL1 fun x8 hr2 hL1=>?_
    obtain ⟨Fs1,hH1,hn1,hF1,hO1,hb1⟩:=BO (As:=[Cq u1 ((List.set x1 (Int.toNat x3) (x2,x6.2.1,x6.2.2.1,x6.2.2.2.1,x6.2.2.2.2)):(List (Int × (List Int) × Int × Int × Int))) (Int.toNat x3) [(I x7.1),v2,(I x7.2.2.1),(I x7.2.2.2.1),(I x7.2.2.2.2)]]) [Ad v2 (x7.2.1:(List Int))] hC10
    refine Bc C4 z z (c_Q_markIntS x7.2.1 v2 (w64 (x2+1)) hH1 hn1 x8 hr2) ?_
    rintro _ w3 ⟨rfl,hq1⟩
    have hC12:Ctx Fs.flatten w0 w3 [Ad v2 (x8.2:(List Int)),Cq u1 ((List.set x1 (Int.toNat x3) (x2,x6.2.1,x6.2.2.1,x6.2.2.2.1,x6.2.2.2.2)):(List (Int × (List Int) × Int × Int × Int))) (Int.toNat x3) [(I x7.1),v2,(I x7.2.2.1),(I x7.2.2.2.1),(I x7.2.2.2.2)]]:=hb1 _ _ hq1
    have hC13:=hC12.f1
    have hC15:=hC13.f1
    have hC14:=CP x7.1 v2 x8.2 x7.2.2.1 x7.2.2.2.1 x7.2.2.2.2 hC15
    have hC16:=hC14.ownCells.closeElem
    refine Ae z z<|Ab<|Ac<|Af z z<|Af z z<|Af z z<|be hL1 fun x9 hx3 hL1=>BD hC16 0 z Bi ty110 hx3 z z z fun b3 hE3=>fd AK A5 z z z z<|?_
    obtain ⟨cs3,hC18⟩:=hC16.openElem hx3
    obtain ⟨v3,he3,hC19⟩:=st110_own (hC18.cellsOwn z)
    obtain rfl:=cells_of_agg he3
    refine Ct (fo:=2) (cs':=[(I x9.1),v3,(I x8.1),(I x9.2.2.2.1),(I x9.2.2.2.2)]) hC19 1 z hE3 z z z z A5 z z (fun w4 hC17=>?_)
    try dsimp only [List.set] at hC17
    have hC20:=hC17.f1
    have hC22:=hC20.f1
    have hC21:=CP x9.1 v3 x9.2.1 x8.1 x9.2.2.2.1 x9.2.2.2.2 hC22
    have hC23:=hC21.ownCells.closeElem
    refine Ab<|Ac<|Af z z<|Be z z z<|Ae z z<|Ab<|Ac<|Af z z<|Af z z<|Af z z<|be hL1 fun x10 hx4 hL1=>BD hC23 0 z Bi ty110 hx4 z z z fun b4 hE4=>fd AK A5 z z z z<|?_
    obtain ⟨cs4,hC25⟩:=hC23.openElem hx4
    obtain ⟨v4,he4,hC26⟩:=st110_own (hC25.cellsOwn z)
    obtain rfl:=cells_of_agg he4
    refine Ct (fo:=3) (cs':=[(I x10.1),v4,(I x10.2.2.1),(I (w64 (x8.1+1))),(I x10.2.2.2.2)]) hC26 1 z hE4 z z z z A5 z z (fun w5 hC24=>?_)
    try dsimp only [List.set] at hC24
    have hC27:=hC24.f1
    have hC29:=hC27.f1
    have hC28:=CP x10.1 v4 x10.2.1 x10.2.2.1 (w64 (x8.1+1)) x10.2.2.2.2 hC29
    have hC30:=hC28.ownCells.closeElem
    refine Ab<|Ac<|Af z z<|Be z z z<|Ae z z<|Ab<|Ac<|Af z z<|Af z z<|Af z z<|be hL1 fun x11 hx5 hL1=>BD hC30 0 z Bi ty110 hx5 z z z fun b5 hE5=>fd AK A5 z z z z<|?_
    obtain ⟨cs5,hC32⟩:=hC30.openElem hx5
    obtain ⟨v5,he5,hC33⟩:=st110_own (hC32.cellsOwn z)
    obtain rfl:=cells_of_agg he5
    refine Ct (fo:=4) (cs':=[(I x11.1),v5,(I x11.2.2.1),(I x11.2.2.2.1),(I (w64 ((w64 (x8.1+1))+1)))]) hC33 1 z hE5 z z z z A5 z z (fun w6 hC31=>?_)
    try dsimp only [List.set] at hC31
    have hC34:=hC31.f1
    have hC36:=hC34.f1
    have hC35:=CP x11.1 v5 x11.2.1 x11.2.2.1 x11.2.2.2.1 (w64 ((w64 (x8.1+1))+1)) hC36
    have hC37:=hC35.ownCells.closeElem
    exact Ab<|AX<|Af z z<|Be z z z<|Ae z z<|Ab<|AJ<|Aj<|AX<|Af z z<|Be z z z<|Ae z z<|Ab<|An (l':=[(0,u1),(1,(I (w64 ((w64 ((w64 (x8.1+1))+1))+1)))),(5,(I (w64 (x3+1))))]) ⟨z,z,z,Ah⟩<|⟨k1,Az _,(List.set (List.set (List.set (List.set (List.set x1 (Int.toNat x3) (x2,x6.2.1,x6.2.2.1,x6.2.2.2.1,x6.2.2.2.2)) (Int.toNat x3) (x7.1,x8.2,x7.2.2.1,x7.2.2.2.1,x7.2.2.2.2)) (Int.toNat x3) (x9.1,x9.2.1,x8.1,x9.2.2.2.1,x9.2.2.2.2)) (Int.toNat x3) (x10.1,x10.2.1,x10.2.2.1,w64 (x8.1+1),x10.2.2.2.2)) (Int.toNat x3) (x11.1,x11.2.1,x11.2.2.1,x11.2.2.2.1,w64 ((w64 (x8.1+1))+1))),w64 ((w64 ((w64 (x8.1+1))+1))+1),w64 (x3+1),z,hC37,hL1⟩
   replace hL1:=AA hL1 hc1
   refine Bm (A2 (A2 (AT ?_)))
   obtain rfl:=Aa hL1
   exact An (l':=[(1,(I x2))]) ⟨z,Ah⟩<|⟨x1,x2,z,z,hC1⟩
 rintro l2 _ w7 hs2 ⟨x4,x5,rfl,rfl,hC38⟩
 try dsimp only at hF
 refine AO hs2 ?_
 clear hs2
 refine Ac<|Af z z<|Ae z z<|Ab<|AC<|?_
 obtain rfl:=Aa hF
 exact Ay z z<|⟨_,z,z,hC38⟩
theorem c_Q_markAtomS {w0:World} {Fs:List (List Nat)} (a1:(List (Int × (List Int)))) (u1:Value) (a2:Int) (hH:Hold [Ad u1 (a1:(List (Int × (List Int))))] w0 Fs) (hn:Fs.flatten.Nodup) (rr:(Int × (List (Int × (List Int))))) (hF:Q.markAtomS a1 a2=some rr) :
 Calls Tryz.prog 82 [u1,(I a2)].toArray w0 fun e w'=>∃v,e=.returned v∧v=(I rr.1)∧Ctx Fs.flatten w0 w' [Ad u1 (rr.2:(List (Int × (List Int))))]:=by
 refine Aw Tryz.func82 z z ?_
 have hC0:=BV hH hn
 unfold Q.markAtomS at hF
 refine Ac<|Ae z z<|Ab<|A0<|Ac<|Ae z z<|Ab<|be hF fun r1 hr1 hF=>Bf (fun l w=>∃x4:(List (Int × (List Int))),∃x5:Int,(x4,x5)=r1∧l=[(1,(I x5))]∧Ctx Fs.flatten w0 w [Ad u1 (x4:(List (Int × (List Int))))]) ?_ ?_
 ·refine AB<|wS (l':=[(0,u1),(1,(I a2)),(5,(I 0))]) ⟨z,z,z,Ah⟩<|Bo (fun k l w=>∃x1:(List (Int × (List Int))),∃x2:Int,∃x3:Int,l=[(0,u1),(1,(I x2)),(5,(I x3))]∧Ctx Fs.flatten w0 w [Ad u1 (x1:(List (Int × (List Int))))]∧Q.markAtomS_l1 k x1 x2 x3=some r1) FUEL ⟨a1,a2,0,z,hC0,hr1⟩<|?_
  clear hr1
  rintro k1 _ w1 ⟨x1,x2,x3,rfl,hC1,hL1⟩
  cases k1 with
  | zero=>rw [Q.markAtomS_l1] at hL1; cases hL1
  | succ k1 =>
   rw [Q.markAtomS_l1] at hL1
   refine A0<|Ac<|Af z z<|Af z z<|AL Bp (hC1.ro 0 z) z z<|AW z z z<|Ab<|A7 z (fun hc1=>?_) (fun hc1=>?_)
   ·replace hL1:=A9 hL1 hc1
    refine A6<|Aj<|A0<|AB<|Ac<|Af z z<|Af z z<|Af z z<|be hL1 fun x6 hx1 hL1=>BD hC1 0 z Bp ty93 hx1 z z z fun b1 hE1=>fd AZ A5 z z z z<|?_
    obtain ⟨cs1,hC3⟩:=hC1.openElem hx1
    obtain ⟨v1,he1,hC4⟩:=st93_own (hC3.cellsOwn z)
    obtain rfl:=cells_of_agg he1
    refine Ct (fo:=0) (cs':=[(I x2),v1]) hC4 1 z hE1 z z z z A5 z z (fun w2 hC2=>?_)
    try dsimp only [List.set] at hC2
    have hC5:=hC2.f1
    have hC7:=hC5.f1
    have hC6:=own_st93 x2 v1 x6.2 hC7
    have hC8:=hC6.ownCells.closeElem
    refine Ab<|Ac<|Af z z<|Be z z z<|Ae z z<|Ab<|AX<|Af z z<|Af z z<|be hL1 fun x7 hx2 hL1=>BD hC8 0 z Bp ty93 hx2 z z z fun b2 hE2=>fd AZ Au z z z z<|?_
    obtain ⟨cs2,hC9⟩:=hC8.openElem hx2
    obtain ⟨v2,he2,hC10⟩:=st93_own (hC9.cellsOwn z)
    obtain rfl:=cells_of_agg he2
    refine C8 (fo:=1) hC10 1 z hE2 z z At z z<|Af z z<|be hL1 fun x8 hr2 hL1=>?_
    obtain ⟨Fs1,hH1,hn1,hF1,hO1,hb1⟩:=BO (As:=[Cq u1 ((List.set x1 (Int.toNat x3) (x2,x6.2)):(List (Int × (List Int)))) (Int.toNat x3) [(I x7.1),v2]]) [Ad v2 (x7.2:(List Int))] hC10
    refine Bc C4 z z (c_Q_markIntS x7.2 v2 (w64 (x2+1)) hH1 hn1 x8 hr2) ?_
    rintro _ w3 ⟨rfl,hq1⟩
    have hC12:Ctx Fs.flatten w0 w3 [Ad v2 (x8.2:(List Int)),Cq u1 ((List.set x1 (Int.toNat x3) (x2,x6.2)):(List (Int × (List Int)))) (Int.toNat x3) [(I x7.1),v2]]:=hb1 _ _ hq1
    have hC13:=hC12.f1
    have hC15:=hC13.f1
    have hC14:=own_st93 x7.1 v2 x8.2 hC15
    have hC16:=hC14.ownCells.closeElem
    exact Ae z z<|Ab<|AJ<|Aj<|AX<|Af z z<|Be z z z<|Ae z z<|Ab<|An (l':=[(0,u1),(1,(I x8.1)),(5,(I (w64 (x3+1))))]) ⟨z,z,z,Ah⟩<|⟨k1,Az _,(List.set (List.set x1 (Int.toNat x3) (x2,x6.2)) (Int.toNat x3) (x7.1,x8.2)),x8.1,w64 (x3+1),z,hC16,hL1⟩
   replace hL1:=AA hL1 hc1
   refine Bm (A2 (A2 (AT ?_)))
   obtain rfl:=Aa hL1
   exact An (l':=[(1,(I x2))]) ⟨z,Ah⟩<|⟨x1,x2,z,z,hC1⟩
 rintro l2 _ w4 hs2 ⟨x4,x5,rfl,rfl,hC17⟩
 try dsimp only at hF
 refine AO hs2 ?_
 clear hs2
 refine Ac<|Af z z<|Ae z z<|Ab<|AC<|?_
 obtain rfl:=Aa hF
 exact Ay z z<|⟨_,z,z,hC17⟩
theorem c_Q_markQuery {w0:World} {Fs:List (List Nat)} (a1:((List Int) × (List (Int × (List Int))))) (u1:Value) (u2:Value) (a2:Int) (hH:Hold [Ad u1 (a1.1:(List Int)),Ad u2 (a1.2:(List (Int × (List Int))))] w0 Fs) (hn:Fs.flatten.Nodup) (rr:(Int × ((List Int) × (List (Int × (List Int)))))) (hF:Q.markQuery a1 a2=some rr) :
 Calls Tryz.prog 41 [(.agg #[u1,u2]),(I a2)].toArray w0 fun e w'=>∃v,e=.returned v∧v=(I rr.1)∧Ctx Fs.flatten w0 w' [Ad u1 (rr.2.1:(List Int)),Ad u2 (rr.2.2:(List (Int × (List Int))))]:=by
 refine Aw Tryz.func41 z z ?_
 have hC0:=BV hH hn
 unfold Q.markQuery at hF
 refine Ac<|Bb (cs:=[u1,u2]) hC0 z z z fun b1 w1 hC1 hB1 hN1=>Ae z z<|Ab<|Ac<|fd Bn Au z z z z<|Al hC1 0 z z At z z<|Af z z<|be hF fun x1 hr1 hF=>have hC2:=hC1.f1;?_
 obtain ⟨Fs1,hH1,hn1,hF1,hO1,hb1⟩:=BO (As:=[Ai b1 [u1,u2],Ad u2 (a1.2:(List (Int × (List Int))))]) [Ad u1 (a1.1:(List Int))] hC2
 refine Bc C4 z z (c_Q_markIntS a1.1 u1 a2 hH1 hn1 x1 hr1) ?_
 rintro _ w2 ⟨rfl,hq1⟩
 have hC3:Ctx Fs.flatten w0 w2 [Ad u1 (x1.2:(List Int)),Ai b1 [u1,u2],Ad u2 (a1.2:(List (Int × (List Int))))]:=hb1 _ _ hq1
 refine Ae z z<|Ab<|Ac<|fd Bn BB z z z z<|Al hC3 1 z z BK z z<|Af z z<|be hF fun x2 hr2 hF=>have hC4:=hC3.f2;?_
 obtain ⟨Fs2,hH2,hn2,hF2,hO2,hb2⟩:=BO (As:=[Ad u1 (x1.2:(List Int)),Ai b1 [u1,u2]]) [Ad u2 (a1.2:(List (Int × (List Int))))] hC4
 refine Bc Tryz.call82 z z (c_Q_markAtomS a1.2 u2 x1.1 hH2 hn2 x2 hr2) ?_
 rintro _ w3 ⟨rfl,hq2⟩
 have hC5:Ctx Fs.flatten w0 w3 [Ad u2 (x2.2:(List (Int × (List Int)))),Ad u1 (x1.2:(List Int)),Ai b1 [u1,u2]]:=hb2 _ _ hq2
 refine Ae z z<|Ab<|Ac<|Af z z<|Ae z z<|Ab<|AC<|?_
 obtain rfl:=Aa hF
 exact Ay z z<|have hC6:=hC5.f1;have hC7:=hC6.h2;⟨_,z,z,hC7⟩
theorem c_Q_markFactS {w0:World} {Fs:List (List Nat)} (a1:(List (Int × (List Int)))) (u1:Value) (a2:Int) (hH:Hold [Ad u1 (a1:(List (Int × (List Int))))] w0 Fs) (hn:Fs.flatten.Nodup) (rr:(Int × (List (Int × (List Int))))) (hF:Q.markFactS a1 a2=some rr) :
 Calls Tryz.prog 83 [u1,(I a2)].toArray w0 fun e w'=>∃v,e=.returned v∧v=(I rr.1)∧Ctx Fs.flatten w0 w' [Ad u1 (rr.2:(List (Int × (List Int))))]:=by
 refine Aw Tryz.func83 z z ?_
 have hC0:=BV hH hn
 unfold Q.markFactS at hF
 refine Ac<|Ae z z<|Ab<|A0<|Ac<|Ae z z<|Ab<|be hF fun r1 hr1 hF=>Bf (fun l w=>∃x4:(List (Int × (List Int))),∃x5:Int,(x4,x5)=r1∧l=[(1,(I x5))]∧Ctx Fs.flatten w0 w [Ad u1 (x4:(List (Int × (List Int))))]) ?_ ?_
 ·refine AB<|wS (l':=[(0,u1),(1,(I a2)),(5,(I 0))]) ⟨z,z,z,Ah⟩<|Bo (fun k l w=>∃x1:(List (Int × (List Int))),∃x2:Int,∃x3:Int,l=[(0,u1),(1,(I x2)),(5,(I x3))]∧Ctx Fs.flatten w0 w [Ad u1 (x1:(List (Int × (List Int))))]∧Q.markFactS_l1 k x1 x2 x3=some r1) FUEL ⟨a1,a2,0,z,hC0,hr1⟩<|?_
  clear hr1
  rintro k1 _ w1 ⟨x1,x2,x3,rfl,hC1,hL1⟩
  cases k1 with
  | zero=>rw [Q.markFactS_l1] at hL1; cases hL1
  | succ k1 =>
   rw [Q.markFactS_l1] at hL1
   refine A0<|Ac<|Af z z<|Af z z<|AL Ao (hC1.ro 0 z) z z<|AW z z z<|Ab<|A7 z (fun hc1=>?_) (fun hc1=>?_)
   ·replace hL1:=A9 hL1 hc1
    refine A6<|Aj<|A0<|AB<|Ac<|Af z z<|Af z z<|Af z z<|be hL1 fun x6 hx1 hL1=>BD hC1 0 z Ao ty77 hx1 z z z fun b1 hE1=>fd AF A5 z z z z<|?_
    obtain ⟨cs1,hC3⟩:=hC1.openElem hx1
    obtain ⟨v1,he1,hC4⟩:=st77_own (hC3.cellsOwn z)
    obtain rfl:=cells_of_agg he1
    refine Ct (fo:=0) (cs':=[(I x2),v1]) hC4 1 z hE1 z z z z A5 z z (fun w2 hC2=>?_)
    try dsimp only [List.set] at hC2
    have hC5:=hC2.f1
    have hC7:=hC5.f1
    have hC6:=Cm x2 v1 x6.2 hC7
    have hC8:=hC6.ownCells.closeElem
    refine Ab<|Ac<|Af z z<|Be z z z<|Ae z z<|Ab<|AX<|Af z z<|Af z z<|be hL1 fun x7 hx2 hL1=>BD hC8 0 z Ao ty77 hx2 z z z fun b2 hE2=>fd AF Au z z z z<|?_
    obtain ⟨cs2,hC9⟩:=hC8.openElem hx2
    obtain ⟨v2,he2,hC10⟩:=st77_own (hC9.cellsOwn z)
    obtain rfl:=cells_of_agg he2
    refine C8 (fo:=1) hC10 1 z hE2 z z At z z<|Af z z<|be hL1 fun x8 hr2 hL1=>?_
    obtain ⟨Fs1,hH1,hn1,hF1,hO1,hb1⟩:=BO (As:=[Cq u1 ((List.set x1 (Int.toNat x3) (x2,x6.2)):(List (Int × (List Int)))) (Int.toNat x3) [(I x7.1),v2]]) [Ad v2 (x7.2:(List Int))] hC10
    refine Bc C4 z z (c_Q_markIntS x7.2 v2 (w64 (x2+1)) hH1 hn1 x8 hr2) ?_
    rintro _ w3 ⟨rfl,hq1⟩
    have hC12:Ctx Fs.flatten w0 w3 [Ad v2 (x8.2:(List Int)),Cq u1 ((List.set x1 (Int.toNat x3) (x2,x6.2)):(List (Int × (List Int)))) (Int.toNat x3) [(I x7.1),v2]]:=hb1 _ _ hq1
    have hC13:=hC12.f1
    have hC15:=hC13.f1
    have hC14:=Cm x7.1 v2 x8.2 hC15
    have hC16:=hC14.ownCells.closeElem
    exact Ae z z<|Ab<|AJ<|Aj<|AX<|Af z z<|Be z z z<|Ae z z<|Ab<|An (l':=[(0,u1),(1,(I x8.1)),(5,(I (w64 (x3+1))))]) ⟨z,z,z,Ah⟩<|⟨k1,Az _,(List.set (List.set x1 (Int.toNat x3) (x2,x6.2)) (Int.toNat x3) (x7.1,x8.2)),x8.1,w64 (x3+1),z,hC16,hL1⟩
   replace hL1:=AA hL1 hc1
   refine Bm (A2 (A2 (AT ?_)))
   obtain rfl:=Aa hL1
   exact An (l':=[(1,(I x2))]) ⟨z,Ah⟩<|⟨x1,x2,z,z,hC1⟩
 rintro l2 _ w4 hs2 ⟨x4,x5,rfl,rfl,hC17⟩
 try dsimp only at hF
 refine AO hs2 ?_
 clear hs2
 refine Ac<|Af z z<|Ae z z<|Ab<|AC<|?_
 obtain rfl:=Aa hF
 exact Ay z z<|⟨_,z,z,hC17⟩
theorem c_Q_markToldS {w0:World} {Fs:List (List Nat)} (a1:(List ((Int × (List Int)) × (List (Int × (List Int)))))) (u1:Value) (a2:Int) (hH:Hold [Ad u1 (a1:(List ((Int × (List Int)) × (List (Int × (List Int))))))] w0 Fs) (hn:Fs.flatten.Nodup) (rr:(Int × (List ((Int × (List Int)) × (List (Int × (List Int))))))) (hF:Q.markToldS a1 a2=some rr) :
 Calls Tryz.prog 42 [u1,(I a2)].toArray w0 fun e w'=>∃v,e=.returned v∧v=(I rr.1)∧Ctx Fs.flatten w0 w' [Ad u1 (rr.2:(List ((Int × (List Int)) × (List (Int × (List Int))))))]:=by
 refine Aw Tryz.func42 z z ?_
 have hC0:=BV hH hn
 unfold Q.markToldS at hF
 refine Ac<|Ae z z<|Ab<|A0<|Ac<|Ae z z<|Ab<|be hF fun r1 hr1 hF=>Bf (fun l w=>∃x4:(List ((Int × (List Int)) × (List (Int × (List Int))))),∃x5:Int,(x4,x5)=r1∧l=[(1,(I x5))]∧Ctx Fs.flatten w0 w [Ad u1 (x4:(List ((Int × (List Int)) × (List (Int × (List Int))))))]) ?_ ?_
 ·refine AB<|wS (l':=[(0,u1),(1,(I a2)),(5,(I 0))]) ⟨z,z,z,Ah⟩<|Bo (fun k l w=>∃x1:(List ((Int × (List Int)) × (List (Int × (List Int))))),∃x2:Int,∃x3:Int,l=[(0,u1),(1,(I x2)),(5,(I x3))]∧Ctx Fs.flatten w0 w [Ad u1 (x1:(List ((Int × (List Int)) × (List (Int × (List Int))))))]∧Q.markToldS_l1 k x1 x2 x3=some r1) FUEL ⟨a1,a2,0,z,hC0,hr1⟩<|?_
  clear hr1
  rintro k1 _ w1 ⟨x1,x2,x3,rfl,hC1,hL1⟩
  cases k1 with
  | zero=>rw [Q.markToldS_l1] at hL1; cases hL1
  | succ k1 =>
   rw [Q.markToldS_l1] at hL1
   refine A0<|Ac<|Af z z<|Af z z<|AL AR (hC1.ro 0 z) z z<|AW z z z<|Ab<|A7 z (fun hc1=>?_) (fun hc1=>?_)
   ·replace hL1:=A9 hL1 hc1
    refine A6<|Aj<|A0<|AB<|Ac<|Af z z<|Af z z<|Af z z<|be hL1 fun x6 hx1 hL1=>BD hC1 0 z AR ty84 hx1 z z z fun b1 hE1=>fd AQ Bu z z z z<|fd Bd A5 z z z z<|?_
    obtain ⟨cs1,hC3⟩:=hC1.openElem hx1
    obtain ⟨v1,v2,he1,hC4⟩:=st84_own (hC3.cellsOwn z)
    obtain rfl:=cells_of_agg he1
    refine Ct (fo:=0) (cs':=[(I x2),v1,v2]) hC4 2 z hE1 z z z z A5 z z (fun w2 hC2=>?_)
    try dsimp only [List.set] at hC2
    have hC5:=hC2.f2
    have hC7:=hC5.f2
    have hC8:=hC7.f2
    have hC6:=CC x2 v1 x6.1.2 v2 x6.2 hC8
    have hC9:=hC6.ownCells.closeElem
    refine Ab<|Ac<|Af z z<|Be z z z<|Ae z z<|Ab<|Ac<|Af z z<|Af z z<|be hL1 fun x7 hx2 hL1=>BD hC9 0 z AR ty84 hx2 z z z fun b2 hE2=>fd AQ Bu z z z z<|fd Bd Au z z z z<|?_
    obtain ⟨cs2,hC10⟩:=hC9.openElem hx2
    obtain ⟨v3,v4,he2,hC11⟩:=st84_own (hC10.cellsOwn z)
    obtain rfl:=cells_of_agg he2
    refine C8 (fo:=1) hC11 2 z hE2 z z At z z<|Af z z<|be hL1 fun x8 hr2 hL1=>?_
    obtain ⟨Fs1,hH1,hn1,hF1,hO1,hb1⟩:=BO (As:=[Ad v4 (x7.2:(List (Int × (List Int)))),Cq u1 ((List.set x1 (Int.toNat x3) ((x2,x6.1.2),x6.2)):(List ((Int × (List Int)) × (List (Int × (List Int)))))) (Int.toNat x3) [(I x7.1.1),v3,v4]]) [Ad v3 (x7.1.2:(List Int))] hC11
    refine Bc C4 z z (c_Q_markIntS x7.1.2 v3 (w64 (x2+1)) hH1 hn1 x8 hr2) ?_
    rintro _ w3 ⟨rfl,hq1⟩
    have hC13:Ctx Fs.flatten w0 w3 [Ad v3 (x8.2:(List Int)),Ad v4 (x7.2:(List (Int × (List Int)))),Cq u1 ((List.set x1 (Int.toNat x3) ((x2,x6.1.2),x6.2)):(List ((Int × (List Int)) × (List (Int × (List Int)))))) (Int.toNat x3) [(I x7.1.1),v3,v4]]:=hb1 _ _ hq1
    have hC14:=hC13.f2
    have hC16:=hC14.f2
    have hC17:=hC16.f2
    have hC15:=CC x7.1.1 v3 x8.2 v4 x7.2 hC17
    have hC18:=hC15.ownCells.closeElem
    refine Ae z z<|Ab<|AX<|Af z z<|Af z z<|be hL1 fun x9 hx3 hL1=>BD hC18 0 z AR ty84 hx3 z z z fun b3 hE3=>fd AQ Bx z z z z<|?_
    obtain ⟨cs3,hC19⟩:=hC18.openElem hx3
    obtain ⟨v5,v6,he3,hC20⟩:=st84_own (hC19.cellsOwn z)
    obtain rfl:=cells_of_agg he3
    refine C8 (fo:=2) hC20 2 z hE3 z z B9 z z<|Af z z<|be hL1 fun x10 hr3 hL1=>have hC21:=hC20.f1;?_
    obtain ⟨Fs2,hH2,hn2,hF2,hO2,hb2⟩:=BO (As:=[Ad v5 (x9.1.2:(List Int)),Cq u1 ((List.set (List.set x1 (Int.toNat x3) ((x2,x6.1.2),x6.2)) (Int.toNat x3) ((x7.1.1,x8.2),x7.2)):(List ((Int × (List Int)) × (List (Int × (List Int)))))) (Int.toNat x3) [(I x9.1.1),v5,v6]]) [Ad v6 (x9.2:(List (Int × (List Int))))] hC21
    refine Bc Tryz.call83 z z (c_Q_markFactS x9.2 v6 x8.1 hH2 hn2 x10 hr3) ?_
    rintro _ w4 ⟨rfl,hq2⟩
    have hC22:Ctx Fs.flatten w0 w4 [Ad v6 (x10.2:(List (Int × (List Int)))),Ad v5 (x9.1.2:(List Int)),Cq u1 ((List.set (List.set x1 (Int.toNat x3) ((x2,x6.1.2),x6.2)) (Int.toNat x3) ((x7.1.1,x8.2),x7.2)):(List ((Int × (List Int)) × (List (Int × (List Int)))))) (Int.toNat x3) [(I x9.1.1),v5,v6]]:=hb2 _ _ hq2
    have hC23:=hC22.f2
    have hC25:=hC23.f1
    have hC26:=hC25.f2
    have hC24:=CC x9.1.1 v5 x9.1.2 v6 x10.2 hC26
    have hC27:=hC24.ownCells.closeElem
    exact Ae z z<|Ab<|AJ<|Aj<|AX<|Af z z<|Be z z z<|Ae z z<|Ab<|An (l':=[(0,u1),(1,(I x10.1)),(5,(I (w64 (x3+1))))]) ⟨z,z,z,Ah⟩<|⟨k1,Az _,(List.set (List.set (List.set x1 (Int.toNat x3) ((x2,x6.1.2),x6.2)) (Int.toNat x3) ((x7.1.1,x8.2),x7.2)) (Int.toNat x3) ((x9.1.1,x9.1.2),x10.2)),x10.1,w64 (x3+1),z,hC27,hL1⟩
   replace hL1:=AA hL1 hc1
   refine Bm (A2 (A2 (AT ?_)))
   obtain rfl:=Aa hL1
   exact An (l':=[(1,(I x2))]) ⟨z,Ah⟩<|⟨x1,x2,z,z,hC1⟩
 rintro l2 _ w5 hs2 ⟨x4,x5,rfl,rfl,hC28⟩
 try dsimp only at hF
 refine AO hs2 ?_
 clear hs2
 refine Ac<|Af z z<|Ae z z<|Ab<|AC<|?_
 obtain rfl:=Aa hF
 exact Ay z z<|⟨_,z,z,hC28⟩
theorem c_Q_markIntSS {w0:World} {Fs:List (List Nat)} (a1:(List (List Int))) (u1:Value) (a2:Int) (hH:Hold [Ad u1 (a1:(List (List Int)))] w0 Fs) (hn:Fs.flatten.Nodup) (rr:(Int × (List (List Int)))) (hF:Q.markIntSS a1 a2=some rr) :
 Calls Tryz.prog 43 [u1,(I a2)].toArray w0 fun e w'=>∃v,e=.returned v∧v=(I rr.1)∧Ctx Fs.flatten w0 w' [Ad u1 (rr.2:(List (List Int)))]:=by
 refine Aw Tryz.func43 z z ?_
 have hC0:=BV hH hn
 unfold Q.markIntSS at hF
 refine Ac<|Ae z z<|Ab<|A0<|Ac<|Ae z z<|Ab<|be hF fun r1 hr1 hF=>Bf (fun l w=>∃x4:(List (List Int)),∃x5:Int,(x4,x5)=r1∧l=[(1,(I x5))]∧Ctx Fs.flatten w0 w [Ad u1 (x4:(List (List Int)))]) ?_ ?_
 ·refine AB<|wS (l':=[(0,u1),(1,(I a2)),(5,(I 0))]) ⟨z,z,z,Ah⟩<|Bo (fun k l w=>∃x1:(List (List Int)),∃x2:Int,∃x3:Int,l=[(0,u1),(1,(I x2)),(5,(I x3))]∧Ctx Fs.flatten w0 w [Ad u1 (x1:(List (List Int)))]∧Q.markIntSS_l1 k x1 x2 x3=some r1) FUEL ⟨a1,a2,0,z,hC0,hr1⟩<|?_
  clear hr1
  rintro k1 _ w1 ⟨x1,x2,x3,rfl,hC1,hL1⟩
  cases k1 with
  | zero=>rw [Q.markIntSS_l1] at hL1; cases hL1
  | succ k1 =>
   rw [Q.markIntSS_l1] at hL1
   refine A0<|Ac<|Af z z<|Af z z<|AL AG (hC1.ro 0 z) z z<|AW z z z<|Ab<|A7 z (fun hc1=>?_) (fun hc1=>?_)
   ·replace hL1:=A9 hL1 hc1
    refine A6<|Aj<|A0<|AB<|AX<|Af z z<|Af z z<|be hL1 fun x6 hx1 hL1=>BD hC1 0 z AG ty24 hx1 z z z fun b1 hE1=>?_
    obtain ⟨cs1,hC2⟩:=hC1.openElem hx1
    obtain ⟨v1,rfl,hC3⟩:=hC2.cellsSlice
    refine C8 (fo:=0) hC3 1 z hE1 z z At z z<|Af z z<|be hL1 fun x7 hr2 hL1=>?_
    obtain ⟨Fs1,hH1,hn1,hF1,hO1,hb1⟩:=BO (As:=[Cq u1 (x1:(List (List Int))) (Int.toNat x3) [v1]]) [Ad v1 (x6:(List Int))] hC3
    refine Bc C4 z z (c_Q_markIntS x6 v1 x2 hH1 hn1 x7 hr2) ?_
    rintro _ w2 ⟨rfl,hq1⟩
    have hC5:Ctx Fs.flatten w0 w2 [Ad v1 (x7.2:(List Int)),Cq u1 (x1:(List (List Int))) (Int.toNat x3) [v1]]:=hb1 _ _ hq1
    have hC6:=hC5.f1
    have hC7:=hC6.f1
    have hC8:=hC7.sliceCells.closeElem
    exact Ae z z<|Ab<|AJ<|Aj<|AX<|Af z z<|Be z z z<|Ae z z<|Ab<|An (l':=[(0,u1),(1,(I x7.1)),(5,(I (w64 (x3+1))))]) ⟨z,z,z,Ah⟩<|⟨k1,Az _,(List.set x1 (Int.toNat x3) x7.2),x7.1,w64 (x3+1),z,hC8,hL1⟩
   replace hL1:=AA hL1 hc1
   refine Bm (A2 (A2 (AT ?_)))
   obtain rfl:=Aa hL1
   exact An (l':=[(1,(I x2))]) ⟨z,Ah⟩<|⟨x1,x2,z,z,hC1⟩
 rintro l2 _ w3 hs2 ⟨x4,x5,rfl,rfl,hC9⟩
 try dsimp only at hF
 refine AO hs2 ?_
 clear hs2
 refine Ac<|Af z z<|Ae z z<|Ab<|AC<|?_
 obtain rfl:=Aa hF
 exact Ay z z<|⟨_,z,z,hC9⟩
theorem c_Q_heldIntS {w0:World} (a1:(List Int)) (u1:Value) (g1:RO [] w0 u1 a1) (a2:Int) (rr:Int) (hF:Q.heldIntS a1 a2=some rr) :
 Calls Tryz.prog 84 [u1,(I a2)].toArray w0 fun e w'=>∃v,e=.returned v∧Res w0 rr v w':=by
 refine Aw Tryz.func84 z z ?_
 have hC0:=A1 w0
 unfold Q.heldIntS at hF
 refine Ac<|Ae z z<|Ab<|A0<|Ac<|Ae z z<|Ab<|be hF fun r1 hr1 hF=>Bf (fun l w=>∃x3:Int,.inl x3=r1∧l=[(1,(I x3))]∧Below w0.heap.size w0 w∧Ctx [] w0 w []) ?_ ?_
 ·refine AB<|wS (l':=[(0,u1),(1,(I a2)),(5,(I 0))]) ⟨z,z,z,Ah⟩<|Bo (fun k l w=>∃x1:Int,∃x2:Int,l=[(0,u1),(1,(I x1)),(5,(I x2))]∧Below w0.heap.size w0 w∧Ctx [] w0 w []∧Q.heldIntS_l1 a1 k x1 x2=some r1) FUEL ⟨a2,0,z,(Am _ _),hC0,hr1⟩<|?_
  clear hr1
  rintro k1 _ w1 ⟨x1,x2,rfl,hB1,hC1,hL1⟩
  cases k1 with
  | zero=>rw [Q.heldIntS_l1] at hL1; cases hL1
  | succ k1 =>
   rw [Q.heldIntS_l1] at hL1
   refine A0<|Ac<|Af z z<|Af z z<|AL Ag g1 z z<|AW z z z<|Ab<|A7 z (fun hc1=>?_) (fun hc1=>?_)
   ·replace hL1:=A9 hL1 hc1
    refine A6<|Aj<|A0<|AB<|A0<|Ac<|Af z z<|Af z z<|be hL1 fun x4 hx1 hL1=>AE Ag ty3 g1 hx1 z z z fun b1 o1 h1=>AH ty3 h1 hC1.keep z z fun v1 h2=>?_
    obtain rfl:=By h2
    refine Af z z<|BI z z z<|Ab<|A7 z (fun hc2=>?_) (fun hc2=>?_)
    ·replace hL1:=A9 hL1 hc2
     refine Ac<|Ae z z<|Ab<|AC<|Ar<|AU<|Ar<|Ar<|AU<|Ar<|Ar<|?_
     obtain rfl:=Aa hL1
     dsimp only at hF
     obtain rfl:=Aa hF
     exact Ay z z<|⟨_,z,Bk hC1 _⟩
    replace hL1:=AA hL1 hc2
    exact A6<|Aj<|AX<|Af z z<|Be z z z<|Ae z z<|Ab<|AJ<|Aj<|AX<|Af z z<|Be z z z<|Ae z z<|Ab<|An (l':=[(0,u1),(1,(I (w64 (x1+1)))),(5,(I (w64 (x2+1))))]) ⟨z,z,z,Ah⟩<|⟨k1,Az _,w64 (x1+1),w64 (x2+1),z,(Ap hB1).below,hC1,hL1⟩
   replace hL1:=AA hL1 hc1
   refine Bm (A2 (A2 (AT ?_)))
   obtain rfl:=Aa hL1
   exact An (l':=[(1,(I x1))]) ⟨z,Ah⟩<|⟨x1,z,z,(Ap hB1).below,hC1⟩
 rintro l2 _ w2 hs2 ⟨x3,rfl,rfl,hB2,hC2⟩
 try dsimp only at hF
 refine AO hs2 ?_
 clear hs2
 refine Ac<|Af z z<|Ae z z<|Ab<|AC<|?_
 obtain rfl:=Aa hF
 exact Ay z z<|⟨_,z,Bk hC2 _⟩
theorem c_Q_heldIntSS {w0:World} (a1:(List (List Int))) (u1:Value) (g1:RO [] w0 u1 a1) (a2:Int) (rr:Int) (hF:Q.heldIntSS a1 a2=some rr) :
 Calls Tryz.prog 44 [u1,(I a2)].toArray w0 fun e w'=>∃v,e=.returned v∧Res w0 rr v w':=by
 refine Aw Tryz.func44 z z ?_
 have hC0:=A1 w0
 unfold Q.heldIntSS at hF
 refine Ac<|Ae z z<|Ab<|A0<|Ac<|Ae z z<|Ab<|be hF fun r1 hr1 hF=>Bf (fun l w=>∃x3:Int,.inl x3=r1∧l=[(1,(I x3))]∧Below w0.heap.size w0 w∧Ctx [] w0 w []) ?_ ?_
 ·refine AB<|wS (l':=[(0,u1),(1,(I a2)),(5,(I 0))]) ⟨z,z,z,Ah⟩<|Bo (fun k l w=>∃x1:Int,∃x2:Int,l=[(0,u1),(1,(I x1)),(5,(I x2))]∧Below w0.heap.size w0 w∧Ctx [] w0 w []∧Q.heldIntSS_l1 a1 k x1 x2=some r1) FUEL ⟨a2,0,z,(Am _ _),hC0,hr1⟩<|?_
  clear hr1
  rintro k1 _ w1 ⟨x1,x2,rfl,hB1,hC1,hL1⟩
  cases k1 with
  | zero=>rw [Q.heldIntSS_l1] at hL1; cases hL1
  | succ k1 =>
   rw [Q.heldIntSS_l1] at hL1
   refine A0<|Ac<|Af z z<|Af z z<|AL AG g1 z z<|AW z z z<|Ab<|A7 z (fun hc1=>?_) (fun hc1=>?_)
   ·replace hL1:=A9 hL1 hc1
    refine A6<|Aj<|A0<|AB<|Ac<|Af z z<|Af z z<|be hL1 fun x4 hx1 hL1=>AE AG ty24 g1 hx1 z z z fun b1 o1 h1=>AH ty24 h1 hC1.keep z z fun v1 h2=>Af z z<|be hL1 fun x5 hr2 hL1=>ci Tryz.call84 z z (c_Q_heldIntS x4 v1 (h2.now hC1.keep) x1 x5 hr2) fun w2 hB2=>have hC2:=hC1.grow hB2;Ae z z<|Ab<|Ac<|Af z z<|AW z z z<|Ab<|A7 z (fun hc2=>?_) (fun hc2=>?_)
    ·replace hL1:=A9 hL1 hc2
     refine Ac<|Ae z z<|Ab<|AC<|AU<|Ar<|Ar<|AU<|Ar<|Ar<|?_
     obtain rfl:=Aa hL1
     dsimp only at hF
     obtain rfl:=Aa hF
     exact Ay z z<|⟨_,z,Bk hC2 _⟩
    replace hL1:=AA hL1 hc2
    exact A6<|AJ<|Aj<|AX<|Af z z<|Be z z z<|Ae z z<|Ab<|An (l':=[(0,u1),(1,(I x5)),(5,(I (w64 (x2+1))))]) ⟨z,z,z,Ah⟩<|⟨k1,Az _,x5,w64 (x2+1),z,((Ap hB1).then hB2).below,hC2,hL1⟩
   replace hL1:=AA hL1 hc1
   refine Bm (A2 (A2 (AT ?_)))
   obtain rfl:=Aa hL1
   exact An (l':=[(1,(I x1))]) ⟨z,Ah⟩<|⟨x1,z,z,(Ap hB1).below,hC1⟩
 rintro l2 _ w3 hs2 ⟨x3,rfl,rfl,hB3,hC3⟩
 try dsimp only at hF
 refine AO hs2 ?_
 clear hs2
 refine Ac<|Af z z<|Ae z z<|Ab<|AC<|?_
 obtain rfl:=Aa hF
 exact Ay z z<|⟨_,z,Bk hC3 _⟩
theorem c_Q_FnExactTrustedAnswers {w0:World} (a1:(List Int)) (u1:Value) (g1:RO [] w0 u1 a1) (a2:(List (Int × (List Int) × Int × Int × Int))) (u2:Value) (g2:RO [] w0 u2 a2) (a3:((List Int) × (List (Int × (List Int))))) (u3:Value) (g3:RO [] w0 u3 a3.1) (u4:Value) (g4:RO [] w0 u4 a3.2) (a4:(List ((Int × (List Int)) × (List (Int × (List Int)))))) (u5:Value) (g5:RO [] w0 u5 a4) (rr:Bool) (hF:Q.FnExactTrustedAnswers a1 a2 a3 a4=some rr) :
 Calls Tryz.prog 4 [u1,u2,(.agg #[u3,u4]),u5].toArray w0 fun e w'=>∃v,e=.returned v∧Res w0 rr v w':=by
 refine Aw Tryz.func4 z z ?_
 have hC0:=A1 w0
 unfold Q.FnExactTrustedAnswers at hF
 refine Ac<|Bb (cs:=[u3,u4]) hC0 z z z fun b1 w1 hC1 hB1 hN1=>Ae z z<|Ab<|A0<|Ac<|Af z z<|AL Ag g1 z z<|C1 z z z<|Ab<|A7 z (fun hc1=>?_) (fun hc1=>?_)
 ·replace hF:=A9 hF hc1
  refine Ac<|Ae z z<|Ab<|AC<|Ar<|?_
  obtain rfl:=Aa hF
  exact Ay z z<|⟨_,z,AD hC1 _⟩
 replace hF:=AA hF hc1
 refine A6<|Aj<|Ac<|Ae z z<|Ab<|Ac<|Af z z<|Af z z<|be hF fun x1 hr1 hF=>ci Tryz.call27 z z (c_Q_szMethodS a2 u2 (g2.now hC1.keep) 1048576 x1 hr1) fun w2 hB2=>have hC2:=hC1.grow hB2;Ae z z<|Ab<|A0<|Ac<|Af z z<|AW z z z<|Ab<|A7 z (fun hc2=>?_) (fun hc2=>?_)
 ·replace hF:=A9 hF hc2
  refine Ac<|Ae z z<|Ab<|AC<|Ar<|?_
  obtain rfl:=Aa hF
  exact Ay z z<|⟨_,z,AD hC2 _⟩
 replace hF:=AA hF hc2
 refine A6<|Aj<|Ac<|A4 [u3,u4] hC2 0 z z z CN C9 z z<|Af z z<|be hF fun x2 hr2 hF=>ci Tryz.call28 z z (c_Q_szQuery (a3.1,a3.2) u3 (g3.now hC2.keep) u4 (g4.now hC2.keep) x1 x2 hr2) fun w3 hB3=>have hC3:=hC2.grow hB3;Ae z z<|Ab<|A0<|Ac<|Af z z<|AW z z z<|Ab<|A7 z (fun hc3=>?_) (fun hc3=>?_)
 ·replace hF:=A9 hF hc3
  refine Ac<|Ae z z<|Ab<|AC<|Ar<|?_
  obtain rfl:=Aa hF
  exact Ay z z<|⟨_,z,AD hC3 _⟩
 replace hF:=AA hF hc3
 refine A6<|Aj<|Ac<|Af z z<|Af z z<|be hF fun x3 hr3 hF=>ci Tryz.call29 z z (c_Q_szToldS a4 u5 (g5.now hC3.keep) x2 x3 hr3) fun w4 hB4=>have hC4:=hC3.grow hB4;Ae z z<|Ab<|A0<|Ac<|Af z z<|AW z z z<|Ab<|A7 z (fun hc4=>?_) (fun hc4=>?_)
 ·replace hF:=A9 hF hc4
  refine Ac<|Ae z z<|Ab<|AC<|Ar<|?_
  obtain rfl:=Aa hF
  exact Ay z z<|⟨_,z,AD hC4 _⟩
 replace hF:=AA hF hc4
 refine A6<|Aj<|A0<|W_drawn 10 z hmix fun w5 hB5=>have hC5:=hC4.grow hB5;tm 0 z z z<|tm 2 z z z<|tm 6 z z z<|be hF fun x4 hr4 hF=>be hF fun x5 hr5 hF=>wAS (l':=[(0,u1),(1,u2),(2,(.agg #[u3,u4])),(3,u5),(6,(ptr b1 0)),(8,(.bool false)),(9,(I x3)),(20,u1),(21,(I (List.length a1:Int))),(22,(.bool (decide (1048576 < (List.length a1:Int))))),(23,u2),(24,(I 1048576)),(25,(I x1)),(26,(I x1)),(27,(.bool (decide (x1 < 0)))),(28,(.agg #[u3,u4])),(29,(I x1)),(30,(I x2)),(31,(I x2)),(32,(.bool (decide (x2 < 0)))),(33,u5),(34,(I x2)),(35,(I x3)),(36,(I x3)),(37,(.bool (decide (x3 < 0)))),(38,u1),(40,u2),(44,u5)]) ⟨z,z,z,z,z,z,z,z,z,z,z,z,z,z,z,z,z,z,z,z,z,z,z,z,z,z,z,z,Ah⟩<|Bq [⟨1,[],fun vs=>BX x4,[]⟩,⟨3,[],fun vs=>BX x5,[]⟩,⟨4,[],fun vs=>Bg (.agg #[u3,u4]),[]⟩] [[],[],[]] 4 z (by kernel_rfl) (by kernel_rfl) z ?_ ?_
 ·refine Aq z ?_ ?_
  ·intro w9 hB8
   refine Ax<|⟨_,z,?_⟩
   refine Bc Cr z z (c_Q_toIntS a1 u1 (g1.now (hC5.keep.then hB8)) x4 hr4) ?_
   rintro v1 w6 ⟨hB6,F1,hv4,hn1,hb1⟩
   exact Ab<|BW hB6 z z hv4 hn1 hb1 (Val.inh hv4)
  refine Aq z ?_ ?_
  ·intro w9 hB8
   refine Ax<|⟨_,z,?_⟩
   refine Bc Dp z z (c_Q_toMethodS a2 u2 (g2.now (hC5.keep.then hB8)) x5 hr5) ?_
   rintro v2 w7 ⟨hB7,F2,hv5,hn2,hb2⟩
   exact Ab<|BW hB7 z z hv5 hn2 hb2 (Val.inh hv5)
  refine Aq z ?_ ?_
  ·intro w9 hB8
   refine Ax<|⟨_,z,?_⟩
   exact A4 [u3,u4] (hC5.grow hB8) 0 z z z CN C9 z z<|Ab<|A3 (Am _ _) z z ⟨z,z⟩
  exact Bl
 intro w10 hB9
 refine Av z z z fun v1 F1 hv4=>Av z z z fun v2 F2 hv5=>Av z z z<|?_
 rintro _ _ ⟨rfl,rfl⟩
 refine Bv ?_
 intro hn3 hb3
 have hC6:=hC5.pushL hB9 (Bs:=[Ad v2 (x5:(List (Int × (List Int) × Int × Int × Int))),Ad v1 (x4:(List Int))]) (Fs:=[F2,F1]) ⟨F2,_,z,hv5,F1,_,z,hv4,z⟩ (by simpa using hn3) (fun b h=>(hb3 b (by simpa using h)).1)
 refine be hF fun x6 hr6 hF=>oe 5 z<|Bc Dq z z (c_Q_toQuery (a3.1,a3.2) u3 (g3.now hC6.keep) u4 (g4.now hC6.keep) x6 hr6)<|?_
 rintro v3 w11 ⟨hB10,F3,hv6,hn4,hb4⟩
 have hC7:=hC6.push hB10 (A:=Ad v3 x6) hv6 hn4 hb4
 obtain ⟨v4,v5,rfl,hC8⟩:=st43_own hC7
 refine Ab<|be hF fun x7 hr7 hF=>oe 7 z<|Bc Dr z z (c_Q_toToldS a4 u5 (g5.now hC8.keep) x7 hr7)<|?_
 rintro v6 w12 ⟨hB11,F4,hv7,hn5,hb5⟩
 have hC9:=hC8.push hB11 (A:=Ad v6 x7) hv7 hn5 hb5
 refine Ab<|be hF fun x8 hr8 hF=>oe 8 z<|Bc Tryz.call26 z z (c_S_TrustedAnswers x4 v1 ((hC9.ro 4 z).now (AP _ _)) x5 v2 ((hC9.ro 3 z).now (AP _ _)) x6 v4 ((hC9.ro 1 z).now (AP _ _)) v5 ((hC9.ro 2 z).now (AP _ _)) x7 v6 ((hC9.ro 0 z).now (AP _ _)) x8 hr8)<|?_
 rintro v7 w13 ⟨hB12,F5,hv8,hn6,hb6⟩
 have hC10:=hC9.push hB12 (A:=Ad v7 x8) hv8 hn6 hb6
 refine Ab<|ta 9 z z z<|dn<|Aj<|Ac<|Af z z<|be hF fun x9 hr9 hF=>Bc Cr z z (c_Q_toIntS a1 u1 (g1.now hC10.keep) x9 hr9)<|?_
 rintro v8 w14 ⟨hB13,F6,hv9,hn7,hb7⟩
 have hC11:=hC10.push hB13 (A:=Ad v8 x9) hv9 hn7 hb7
 refine Ae z z<|Ab<|Ac<|Af z z<|be hF fun x10 hr10 hF=>Bc Dp z z (c_Q_toMethodS a2 u2 (g2.now hC11.keep) x10 hr10)<|?_
 rintro v9 w15 ⟨hB14,F7,hv10,hn8,hb8⟩
 have hC12:=hC11.push hB14 (A:=Ad v9 x10) hv10 hn8 hb8
 refine Ae z z<|Ab<|Ac<|A4 [u3,u4] hC12 8 z z z CN C9 z z<|be hF fun x11 hr11 hF=>Bc Dq z z (c_Q_toQuery (a3.1,a3.2) u3 (g3.now hC12.keep) u4 (g4.now hC12.keep) x11 hr11)<|?_
 rintro v10 w16 ⟨hB15,F8,hv11,hn9,hb9⟩
 have hC13:=hC12.push hB15 (A:=Ad v10 x11) hv11 hn9 hb9
 obtain ⟨v11,v12,rfl,hC14⟩:=st43_own hC13
 refine B0 hC14 zero43 z z fun b2 w17 hC15 hB16 hN2=>AS (cs':=[v11,v12]) (new:=[v11,v12]) hC15 0 z z (fac (B1 (hC15.ro 1 z))<|fac (B1 (hC15.ro 2 z))<|fa0) z BC z z fun w18 hC16 hKp1=>?_
 try dsimp only [List.set] at hC16
 have hk1:=AI (((((((((((((Ap hB1).then hB2).then hB3).then hB4).then hB5).then hB9).then hB10).then hB11).then hB12).then hB13).then hB14).then hB15).then hB16) (AM ((((((((((((Ap hB1).then hB2).then hB3).then hB4).then hB5).then hB9).then hB10).then hB11).then hB12).then hB13).then hB14).then hB15).size hN2) hKp1
 have hk2:=AI ((((((((((((Ap hB2).then hB3).then hB4).then hB5).then hB9).then hB10).then hB11).then hB12).then hB13).then hB14).then hB15).then hB16) (AM (((((((((((Ap hB2).then hB3).then hB4).then hB5).then hB9).then hB10).then hB11).then hB12).then hB13).then hB14).then hB15).size hN2) hKp1
 have hk3:=AI (((((((((((Ap hB3).then hB4).then hB5).then hB9).then hB10).then hB11).then hB12).then hB13).then hB14).then hB15).then hB16) (AM ((((((((((Ap hB3).then hB4).then hB5).then hB9).then hB10).then hB11).then hB12).then hB13).then hB14).then hB15).size hN2) hKp1
 have hk4:=AI ((((((((((Ap hB4).then hB5).then hB9).then hB10).then hB11).then hB12).then hB13).then hB14).then hB15).then hB16) (AM (((((((((Ap hB4).then hB5).then hB9).then hB10).then hB11).then hB12).then hB13).then hB14).then hB15).size hN2) hKp1
 have hk5:=AI (((((((((Ap hB5).then hB9).then hB10).then hB11).then hB12).then hB13).then hB14).then hB15).then hB16) (AM ((((((((Ap hB5).then hB9).then hB10).then hB11).then hB12).then hB13).then hB14).then hB15).size hN2) hKp1
 have hk6:=AI ((((((((Ap hB9).then hB10).then hB11).then hB12).then hB13).then hB14).then hB15).then hB16) (AM (((((((Ap hB9).then hB10).then hB11).then hB12).then hB13).then hB14).then hB15).size hN2) hKp1
 have hk7:=AI (((((((Ap hB10).then hB11).then hB12).then hB13).then hB14).then hB15).then hB16) (AM ((((((Ap hB10).then hB11).then hB12).then hB13).then hB14).then hB15).size hN2) hKp1
 have hk8:=AI ((((((Ap hB11).then hB12).then hB13).then hB14).then hB15).then hB16) (AM (((((Ap hB11).then hB12).then hB13).then hB14).then hB15).size hN2) hKp1
 have hk9:=AI (((((Ap hB12).then hB13).then hB14).then hB15).then hB16) (AM ((((Ap hB12).then hB13).then hB14).then hB15).size hN2) hKp1
 have hk10:=AI ((((Ap hB13).then hB14).then hB15).then hB16) (AM (((Ap hB13).then hB14).then hB15).size hN2) hKp1
 have hk11:=AI (((Ap hB14).then hB15).then hB16) (AM ((Ap hB14).then hB15).size hN2) hKp1
 have hk12:=AI ((Ap hB15).then hB16) (AM (Ap hB15).size hN2) hKp1
 have hk13:=AI (Ap hB16) hN2 hKp1
 refine Ab<|Ac<|Af z z<|be hF fun x12 hr12 hF=>Bc Dr z z (c_Q_toToldS a4 u5 (g5.now hC16.keep) x12 hr12)<|?_
 rintro v13 w19 ⟨hB17,F9,hv12,hn10,hb10⟩
 have hC17:=hC16.push hB17 (A:=Ad v13 x12) hv12 hn10 hb10
 refine Ae z z<|Ab<|Ac<|Af z z<|Af z z<|A4 [v11,v12] hC17 1 z z z BL BC z z<|Af z z<|be hF fun x13 hr13 hF=>Bc Tryz.call25 z z (c_M_TrustedAnswers x9 v8 ((hC17.ro 5 z).now (AP _ _)) x10 v9 ((hC17.ro 4 z).now (AP _ _)) (x11.1,x11.2) v11 ((hC17.ro 2 z).now (AP _ _)) v12 ((hC17.ro 3 z).now (AP _ _)) x12 v13 ((hC17.ro 0 z).now (AP _ _)) x13 hr13)<|?_
 rintro v14 w20 ⟨hB18,F10,hv13,hn11,hb11⟩
 have hC18:=hC17.push hB18 (A:=Ad v14 x13) hv13 hn11 hb11
 refine Ae z z<|Ab<|A0<|Ac<|Af z z<|Af z z<|be hF fun x14 hr14 hF=>cb Tryz.call34 z z (c_Q_eqIntSS x13 v14 ((hC18.ro 0 z).now (AP _ _)) x8 v7 ((hC18.ro 7 z).now (AP _ _)) x14 hr14) fun w21 hB19=>have hC19:=hC18.grow hB19;Bw z z<|Ab<|A7 z (fun hc5=>?_) (fun hc5=>?_)
 ·replace hF:=A9 hF hc5
  refine Ac<|Ae z z<|Ab<|AC<|Ar<|?_
  obtain rfl:=Aa hF
  exact Ay z z<|⟨_,z,AD hC19 _⟩
 replace hF:=AA hF hc5
 refine A6<|Aj<|A0<|Ac<|Af z z<|Af z z<|be hF fun x15 hr15 hF=>Bc Cr z z (c_Q_toIntS a1 u1 (g1.now hC19.keep) x15 hr15)<|?_
 rintro v15 w22 ⟨hB20,F11,hv15,hn12,hb12⟩
 have hC20:=hC19.push hB20 (A:=Ad v15 x15) hv15 hn12 hb12
 refine be hF fun x16 hr16 hF=>cb C3 z z (c_Q_eqIntS x9 v8 ((hC20.ro 7 z).now (AP _ _)) x15 v15 ((hC20.ro 0 z).now (AP _ _)) x16 hr16) fun w23 hB21=>have hC21:=hC20.grow hB21;Bw z z<|Ab<|A7 z (fun hc6=>?_) (fun hc6=>?_)
 ·replace hF:=A9 hF hc6
  refine Ac<|Ae z z<|Ab<|AC<|Ar<|?_
  obtain rfl:=Aa hF
  exact Ay z z<|⟨_,z,AD hC21 _⟩
 replace hF:=AA hF hc6
 refine A6<|Aj<|A0<|Ac<|Af z z<|Af z z<|be hF fun x17 hr17 hF=>Bc Dp z z (c_Q_toMethodS a2 u2 (g2.now hC21.keep) x17 hr17)<|?_
 rintro v16 w24 ⟨hB22,F12,hv17,hn13,hb13⟩
 have hC22:=hC21.push hB22 (A:=Ad v16 x17) hv17 hn13 hb13
 refine be hF fun x18 hr18 hF=>cb Tryz.call36 z z (c_Q_eqMethodS x10 v9 ((hC22.ro 7 z).now (AP _ _)) x17 v16 ((hC22.ro 0 z).now (AP _ _)) x18 hr18) fun w25 hB23=>have hC23:=hC22.grow hB23;Bw z z<|Ab<|A7 z (fun hc7=>?_) (fun hc7=>?_)
 ·replace hF:=A9 hF hc7
  refine Ac<|Ae z z<|Ab<|AC<|Ar<|?_
  obtain rfl:=Aa hF
  exact Ay z z<|⟨_,z,AD hC23 _⟩
 replace hF:=AA hF hc7
 refine A6<|Aj<|A0<|A0<|W_drawn 5 z hmix fun w26 hB24=>have hC24:=hC23.grow hB24;be hF fun x19 hr19 hF=>wAS (l':=[(0,u1),(1,u2),(2,(.agg #[u3,u4])),(3,u5),(6,(ptr b1 0)),(8,(.bool false)),(9,(I x3)),(10,v7),(11,v8),(12,v9),(13,(ptr b2 0)),(14,v13),(15,v14),(20,u1),(21,(I (List.length a1:Int))),(22,(.bool (decide (1048576 < (List.length a1:Int))))),(23,u2),(24,(I 1048576)),(25,(I x1)),(26,(I x1)),(27,(.bool (decide (x1 < 0)))),(28,(.agg #[u3,u4])),(29,(I x1)),(30,(I x2)),(31,(I x2)),(32,(.bool (decide (x2 < 0)))),(33,u5),(34,(I x2)),(35,(I x3)),(36,(I x3)),(37,(.bool (decide (x3 < 0)))),(38,u1),(39,v1),(40,u2),(41,v2),(42,(.agg #[u3,u4])),(43,(.agg #[v4,v5])),(44,u5),(45,v6),(46,v7),(47,u1),(48,v8),(49,u2),(50,v9),(51,(.agg #[u3,u4])),(52,(.agg #[v11,v12])),(53,u5),(54,v13),(55,v8),(56,v9),(57,(.agg #[v11,v12])),(58,v13),(59,v14),(60,v14),(61,v7),(62,(.bool x14)),(63,(.bool (!x14))),(64,v8),(65,u1),(66,v15),(67,(.bool x16)),(68,(.bool (!x16))),(69,v9),(70,u2),(71,v16),(72,(.bool x18)),(73,(.bool (!x18)))]) ⟨z,z,z,z,z,z,z,z,z,z,z,z,z,z,z,z,z,z,z,z,z,z,z,z,z,z,z,z,z,z,z,z,z,z,z,z,z,z,z,z,z,z,z,z,z,z,z,z,z,z,z,z,z,z,z,z,z,z,z,z,z,z,z,z,z,z,z,Ah⟩<|Bq [⟨0,[],fun vs=>Bg (.agg #[v11,v12]),[]⟩,⟨1,[],fun vs=>Bg (.agg #[u3,u4]),[]⟩,⟨2,[],fun vs=>BX x19,[]⟩] [[],[],[1]] 2 z (by kernel_rfl) (by kernel_rfl) z ?_ ?_
 ·refine Aq z ?_ ?_
  ·intro w28 hB26
   refine Ax<|⟨_,z,?_⟩
   exact A4 [v11,v12] (hC24.grow hB26) 4 z z z BL BC z z<|Ab<|A3 (Am _ _) z z ⟨z,z⟩
  refine Aq z ?_ ?_
  ·intro w28 hB26
   refine Ax<|⟨_,z,?_⟩
   exact A4 [u3,u4] (hC24.grow hB26) 15 z z z CN C9 z z<|Ab<|A3 (Am _ _) z z ⟨z,z⟩
  refine Aq z ?_ ?_
  ·intro w28 hB26
   refine AN z z z ?_
   rintro _ _ ⟨rfl,rfl⟩ _
   refine Ax<|⟨_,z,?_⟩
   refine Bc Dq z z (c_Q_toQuery (a3.1,a3.2) u3 (g3.now (hC24.keep.then hB26)) u4 (g4.now (hC24.keep.then hB26)) x19 hr19) ?_
   rintro v17 w27 ⟨hB25,F13,hv19,hn14,hb14⟩
   exact Ab<|BW hB25 z z hv19 hn14 hb14 (Val.inh hv19)
  exact Bl
 intro w29 hB27
 refine Av z z z ?_
 rintro _ _ ⟨rfl,rfl⟩
 refine Av z z z ?_
 rintro _ _ ⟨rfl,rfl⟩
 refine Av z z z fun v17 F13 hv19=>Bv fun hn15 hb15=>?_
 have hC25:=hC24.pushL hB27 (Bs:=[Ad v17 (x19:((List Int) × (List (Int × (List Int)))))]) (Fs:=[F13]) ⟨F13,_,z,hv19,z⟩ (by simpa using hn15) (fun b h=>(hb15 b (by simpa using h)).1)
 obtain ⟨v20,v21,rfl,hC26⟩:=st43_own hC25
 refine be hF fun x20 hr20 hF=>oe 3 z<|cb Tryz.call37 z z (c_Q_eqQuery (x11.1,x11.2) v11 ((hC26.ro 7 z).now (AP _ _)) v12 ((hC26.ro 8 z).now (AP _ _)) x19 v20 ((hC26.ro 0 z).now (AP _ _)) v21 ((hC26.ro 1 z).now (AP _ _)) x20 hr20) fun w30 hB28=>have hC27:=hC26.grow hB28;Ab<|tk 4 z z (Cs z)<|Bw z z<|Ab<|dn<|Aj<|A7 z (fun hc8=>?_) (fun hc8=>?_)
 ·replace hF:=A9 hF hc8
  refine Ac<|Ae z z<|Ab<|AC<|Ar<|?_
  obtain rfl:=Aa hF
  exact Ay z z<|⟨_,z,AD hC27 _⟩
 replace hF:=AA hF hc8
 refine A6<|Aj<|A0<|Ac<|Af z z<|Af z z<|be hF fun x21 hr21 hF=>Bc Dr z z (c_Q_toToldS a4 u5 (g5.now hC27.keep) x21 hr21)<|?_
 rintro v22 w31 ⟨hB29,F14,hv21,hn16,hb16⟩
 have hC28:=hC27.push hB29 (A:=Ad v22 x21) hv21 hn16 hb16
 refine be hF fun x22 hr22 hF=>cb Tryz.call38 z z (c_Q_eqToldS x12 v13 ((hC28.ro 6 z).now (AP _ _)) x21 v22 ((hC28.ro 0 z).now (AP _ _)) x22 hr22) fun w32 hB30=>have hC29:=hC28.grow hB30;Bw z z<|Ab<|A7 z (fun hc9=>?_) (fun hc9=>?_)
 ·replace hF:=A9 hF hc9
  refine Ac<|Ae z z<|Ab<|AC<|Ar<|?_
  obtain rfl:=Aa hF
  exact Ay z z<|⟨_,z,AD hC29 _⟩
 replace hF:=AA hF hc9
 refine A6<|Aj<|Ac<|Ae z z<|Ab<|Ac<|Af z z<|Af z z<|be hF fun x23 hr23 hF=>have hC30:=hC29.f11;?_
 obtain ⟨Fs1,hH1,hn17,hF1,hO1,hb17⟩:=BO (As:=[Ad v22 (x21:(List ((Int × (List Int)) × (List (Int × (List Int)))))),Ad v20 (x19.1:(List Int)),Ad v21 (x19.2:(List (Int × (List Int)))),Ad v16 (x17:(List (Int × (List Int) × Int × Int × Int))),Ad v15 (x15:(List Int)),Ad v14 (x13:(List (List Int))),Ad v13 (x12:(List ((Int × (List Int)) × (List (Int × (List Int)))))),Ai b2 [v11,v12],Ad v11 (x11.1:(List Int)),Ad v12 (x11.2:(List (Int × (List Int)))),Ad v9 (x10:(List (Int × (List Int) × Int × Int × Int))),Ad v7 (x8:(List (List Int))),Ad v6 (x7:(List ((Int × (List Int)) × (List (Int × (List Int)))))),Ad v4 (x6.1:(List Int)),Ad v5 (x6.2:(List (Int × (List Int)))),Ad v2 (x5:(List (Int × (List Int) × Int × Int × Int))),Ad v1 (x4:(List Int)),Ai b1 [u3,u4]]) [Ad v8 (x9:(List Int))] hC30
 refine Bc C4 z z (c_Q_markIntS x9 v8 1 hH1 hn17 x23 hr23) ?_
 rintro _ w33 ⟨rfl,hq10⟩
 have hC31:Ctx [] w0 w33 [Ad v8 (x23.2:(List Int)),Ad v22 (x21:(List ((Int × (List Int)) × (List (Int × (List Int)))))),Ad v20 (x19.1:(List Int)),Ad v21 (x19.2:(List (Int × (List Int)))),Ad v16 (x17:(List (Int × (List Int) × Int × Int × Int))),Ad v15 (x15:(List Int)),Ad v14 (x13:(List (List Int))),Ad v13 (x12:(List ((Int × (List Int)) × (List (Int × (List Int)))))),Ai b2 [v11,v12],Ad v11 (x11.1:(List Int)),Ad v12 (x11.2:(List (Int × (List Int)))),Ad v9 (x10:(List (Int × (List Int) × Int × Int × Int))),Ad v7 (x8:(List (List Int))),Ad v6 (x7:(List ((Int × (List Int)) × (List (Int × (List Int)))))),Ad v4 (x6.1:(List Int)),Ad v5 (x6.2:(List (Int × (List Int)))),Ad v2 (x5:(List (Int × (List Int) × Int × Int × Int))),Ad v1 (x4:(List Int)),Ai b1 [u3,u4]]:=hb17 _ _ hq10
 refine Ae z z<|Ab<|Ac<|Af z z<|Af z z<|be hF fun x24 hr24 hF=>have hC32:=hC31.f11;?_
 obtain ⟨Fs2,hH2,hn18,hF2,hO2,hb18⟩:=BO (As:=[Ad v8 (x23.2:(List Int)),Ad v22 (x21:(List ((Int × (List Int)) × (List (Int × (List Int)))))),Ad v20 (x19.1:(List Int)),Ad v21 (x19.2:(List (Int × (List Int)))),Ad v16 (x17:(List (Int × (List Int) × Int × Int × Int))),Ad v15 (x15:(List Int)),Ad v14 (x13:(List (List Int))),Ad v13 (x12:(List ((Int × (List Int)) × (List (Int × (List Int)))))),Ai b2 [v11,v12],Ad v11 (x11.1:(List Int)),Ad v12 (x11.2:(List (Int × (List Int)))),Ad v7 (x8:(List (List Int))),Ad v6 (x7:(List ((Int × (List Int)) × (List (Int × (List Int)))))),Ad v4 (x6.1:(List Int)),Ad v5 (x6.2:(List (Int × (List Int)))),Ad v2 (x5:(List (Int × (List Int) × Int × Int × Int))),Ad v1 (x4:(List Int)),Ai b1 [u3,u4]]) [Ad v9 (x10:(List (Int × (List Int) × Int × Int × Int)))] hC32
 refine Bc Tryz.call40 z z (c_Q_markMethodS x10 v9 x23.1 hH2 hn18 x24 hr24) ?_
 rintro _ w34 ⟨rfl,hq11⟩
 have hC33:Ctx [] w0 w34 [Ad v9 (x24.2:(List (Int × (List Int) × Int × Int × Int))),Ad v8 (x23.2:(List Int)),Ad v22 (x21:(List ((Int × (List Int)) × (List (Int × (List Int)))))),Ad v20 (x19.1:(List Int)),Ad v21 (x19.2:(List (Int × (List Int)))),Ad v16 (x17:(List (Int × (List Int) × Int × Int × Int))),Ad v15 (x15:(List Int)),Ad v14 (x13:(List (List Int))),Ad v13 (x12:(List ((Int × (List Int)) × (List (Int × (List Int)))))),Ai b2 [v11,v12],Ad v11 (x11.1:(List Int)),Ad v12 (x11.2:(List (Int × (List Int)))),Ad v7 (x8:(List (List Int))),Ad v6 (x7:(List ((Int × (List Int)) × (List (Int × (List Int)))))),Ad v4 (x6.1:(List Int)),Ad v5 (x6.2:(List (Int × (List Int)))),Ad v2 (x5:(List (Int × (List Int) × Int × Int × Int))),Ad v1 (x4:(List Int)),Ai b1 [u3,u4]]:=hb18 _ _ hq11
 refine Ae z z<|Ab<|Ac<|A4 [v11,v12] hC33 9 z z z BL BC z z<|Af z z<|be hF fun x25 hr25 hF=>have hC34:=hC33.f11;have hC35:=hC34.f11;?_
 obtain ⟨Fs3,hH3,hn19,hF3,hO3,hb19⟩:=BO (As:=[Ad v9 (x24.2:(List (Int × (List Int) × Int × Int × Int))),Ad v8 (x23.2:(List Int)),Ad v22 (x21:(List ((Int × (List Int)) × (List (Int × (List Int)))))),Ad v20 (x19.1:(List Int)),Ad v21 (x19.2:(List (Int × (List Int)))),Ad v16 (x17:(List (Int × (List Int) × Int × Int × Int))),Ad v15 (x15:(List Int)),Ad v14 (x13:(List (List Int))),Ad v13 (x12:(List ((Int × (List Int)) × (List (Int × (List Int)))))),Ai b2 [v11,v12],Ad v7 (x8:(List (List Int))),Ad v6 (x7:(List ((Int × (List Int)) × (List (Int × (List Int)))))),Ad v4 (x6.1:(List Int)),Ad v5 (x6.2:(List (Int × (List Int)))),Ad v2 (x5:(List (Int × (List Int) × Int × Int × Int))),Ad v1 (x4:(List Int)),Ai b1 [u3,u4]]) [Ad v11 (x11.1:(List Int)),Ad v12 (x11.2:(List (Int × (List Int))))] hC35
 refine Bc Tryz.call41 z z (c_Q_markQuery (x11.1,x11.2) v11 v12 x24.1 hH3 hn19 x25 hr25) ?_
 rintro _ w35 ⟨rfl,hq12⟩
 have hC36:Ctx [] w0 w35 [Ad v11 (x25.2.1:(List Int)),Ad v12 (x25.2.2:(List (Int × (List Int)))),Ad v9 (x24.2:(List (Int × (List Int) × Int × Int × Int))),Ad v8 (x23.2:(List Int)),Ad v22 (x21:(List ((Int × (List Int)) × (List (Int × (List Int)))))),Ad v20 (x19.1:(List Int)),Ad v21 (x19.2:(List (Int × (List Int)))),Ad v16 (x17:(List (Int × (List Int) × Int × Int × Int))),Ad v15 (x15:(List Int)),Ad v14 (x13:(List (List Int))),Ad v13 (x12:(List ((Int × (List Int)) × (List (Int × (List Int)))))),Ai b2 [v11,v12],Ad v7 (x8:(List (List Int))),Ad v6 (x7:(List ((Int × (List Int)) × (List (Int × (List Int)))))),Ad v4 (x6.1:(List Int)),Ad v5 (x6.2:(List (Int × (List Int)))),Ad v2 (x5:(List (Int × (List Int) × Int × Int × Int))),Ad v1 (x4:(List Int)),Ai b1 [u3,u4]]:=hb19 _ _ hq12
 refine Ae z z<|Ab<|Ac<|Af z z<|Af z z<|be hF fun x26 hr26 hF=>have hC37:=hC36.f10;?_
 obtain ⟨Fs4,hH4,hn20,hF4,hO4,hb20⟩:=BO (As:=[Ad v11 (x25.2.1:(List Int)),Ad v12 (x25.2.2:(List (Int × (List Int)))),Ad v9 (x24.2:(List (Int × (List Int) × Int × Int × Int))),Ad v8 (x23.2:(List Int)),Ad v22 (x21:(List ((Int × (List Int)) × (List (Int × (List Int)))))),Ad v20 (x19.1:(List Int)),Ad v21 (x19.2:(List (Int × (List Int)))),Ad v16 (x17:(List (Int × (List Int) × Int × Int × Int))),Ad v15 (x15:(List Int)),Ad v14 (x13:(List (List Int))),Ai b2 [v11,v12],Ad v7 (x8:(List (List Int))),Ad v6 (x7:(List ((Int × (List Int)) × (List (Int × (List Int)))))),Ad v4 (x6.1:(List Int)),Ad v5 (x6.2:(List (Int × (List Int)))),Ad v2 (x5:(List (Int × (List Int) × Int × Int × Int))),Ad v1 (x4:(List Int)),Ai b1 [u3,u4]]) [Ad v13 (x12:(List ((Int × (List Int)) × (List (Int × (List Int))))))] hC37
 refine Bc Tryz.call42 z z (c_Q_markToldS x12 v13 x25.1 hH4 hn20 x26 hr26) ?_
 rintro _ w36 ⟨rfl,hq13⟩
 have hC38:Ctx [] w0 w36 [Ad v13 (x26.2:(List ((Int × (List Int)) × (List (Int × (List Int)))))),Ad v11 (x25.2.1:(List Int)),Ad v12 (x25.2.2:(List (Int × (List Int)))),Ad v9 (x24.2:(List (Int × (List Int) × Int × Int × Int))),Ad v8 (x23.2:(List Int)),Ad v22 (x21:(List ((Int × (List Int)) × (List (Int × (List Int)))))),Ad v20 (x19.1:(List Int)),Ad v21 (x19.2:(List (Int × (List Int)))),Ad v16 (x17:(List (Int × (List Int) × Int × Int × Int))),Ad v15 (x15:(List Int)),Ad v14 (x13:(List (List Int))),Ai b2 [v11,v12],Ad v7 (x8:(List (List Int))),Ad v6 (x7:(List ((Int × (List Int)) × (List (Int × (List Int)))))),Ad v4 (x6.1:(List Int)),Ad v5 (x6.2:(List (Int × (List Int)))),Ad v2 (x5:(List (Int × (List Int) × Int × Int × Int))),Ad v1 (x4:(List Int)),Ai b1 [u3,u4]]:=hb20 _ _ hq13
 refine Ae z z<|Ab<|A0<|be hF fun r1 hr27 hF=>BH (fun l w=>∃x27:Bool,x27=r1∧l=[(0,u1),(1,u2),(3,u5),(6,(ptr b1 0)),(10,v7),(15,v14),(103,(.bool x27))]∧Below w36.heap.size w36 w∧Ctx [] w0 w [Ad v14 (x13:(List (List Int))),Ad v7 (x8:(List (List Int))),Ai b1 [u3,u4]]) ?_ ?_
 ·refine AX<|Af z z<|AW z z z<|Af z z<|Bz (fun hc10=>?_) (fun hc10=>?_)
  ·replace hr27:=A9 hr27 hc10
   refine gs z z z z<|gs z z z z<|gs z z z z<|gs z z z z<|Ba z z z<|Ab<|?_
   obtain rfl:=Aa hr27
   have hC40:=hC38.f18
   have hC41:=hC40.f13
   have hC42:=hC41.f12
   have hC43:=hC42.h3
   exact An (l':=[(0,u1),(1,u2),(3,u5),(6,(ptr b1 0)),(10,v7),(15,v14),(103,(.bool true))]) ⟨z,z,z,z,z,z,z,Ah⟩<|⟨true,z,z,(Am _ _),hC43⟩
  replace hr27:=AA hr27 hc10
  refine Ak z z<|Af z z<|Ak z z<|Af z z<|be hr27 fun x28 hr28 hr27=>Ak z z<|cb Tryz.call34 z z (c_Q_eqIntSS x13 v14 ((hC38.ro 10 z).now (AP _ _)) x8 v7 ((hC38.ro 12 z).now (AP _ _)) x28 hr28) fun w38 hB32=>have hC44:=hC38.grow hB32;Ak z z<|Bw z z<|AY z z z<|Ab<|?_
  obtain rfl:=Aa hr27
  have hC45:=hC44.f18
  have hC46:=hC45.f13
  have hC47:=hC46.f12
  have hC48:=hC47.h3
  exact An (l':=[(0,u1),(1,u2),(3,u5),(6,(ptr b1 0)),(10,v7),(15,v14),(103,(.bool (!x28)))]) ⟨z,z,z,z,z,z,z,Ah⟩<|⟨(!x28),z,z,(Ap hB32).below,hC48⟩
 rintro _ w37 ⟨x27,rfl,rfl,hB31,hC39⟩
 try dsimp only at hF
 refine A7 z (fun hc11=>?_) (fun hc11=>?_)
 ·replace hF:=A9 hF hc11
  refine Ac<|Ae z z<|Ab<|AC<|Ar<|?_
  obtain rfl:=Aa hF
  exact Ay z z<|⟨_,z,AD hC39 _⟩
 replace hF:=AA hF hc11
 refine A6<|Aj<|Ac<|Ae z z<|Ab<|Ac<|Af z z<|Af z z<|be hF fun x29 hr29 hF=>?_
 obtain ⟨Fs5,hH5,hn21,hF5,hO5,hb21⟩:=BO (As:=[Ad v7 (x8:(List (List Int))),Ai b1 [u3,u4]]) [Ad v14 (x13:(List (List Int)))] hC39
 refine Bc Tryz.call43 z z (c_Q_markIntSS x13 v14 1 hH5 hn21 x29 hr29) ?_
 rintro _ w39 ⟨rfl,hq17⟩
 have hC50:Ctx [] w0 w39 [Ad v14 (x29.2:(List (List Int))),Ad v7 (x8:(List (List Int))),Ai b1 [u3,u4]]:=hb21 _ _ hq17
 refine Ae z z<|Ab<|Ac<|Ae z z<|Ab<|Ac<|Af z z<|Af z z<|be hF fun x30 hr30 hF=>ci Tryz.call44 z z (c_Q_heldIntSS x29.2 v14 ((hC50.ro 0 z).now (AP _ _)) 1 x30 hr30) fun w40 hB33=>have hC51:=hC50.grow hB33;Ae z z<|Ab<|A0<|Ac<|Af z z<|AW z z z<|Ab<|A7 z (fun hc12=>?_) (fun hc12=>?_)
 ·replace hF:=A9 hF hc12
  refine Ac<|Ae z z<|Ab<|AC<|Ar<|?_
  obtain rfl:=Aa hF
  exact Ay z z<|⟨_,z,AD hC51 _⟩
 replace hF:=AA hF hc12
 refine A6<|Aj<|A0<|Ac<|Af z z<|Af z z<|BI z z z<|Ab<|A7 z (fun hc13=>?_) (fun hc13=>?_)
 ·replace hF:=A9 hF hc13
  refine Ac<|Ae z z<|Ab<|AC<|Ar<|?_
  obtain rfl:=Aa hF
  exact Ay z z<|⟨_,z,AD hC51 _⟩
 replace hF:=AA hF hc13
 refine A6<|Aj<|A0<|W_drawn 10 z hmix fun w41 hB34=>have hC52:=hC51.grow hB34;tm 0 z z z<|tm 2 z z z<|tm 6 z z z<|be hF fun x31 hr31 hF=>be hF fun x32 hr32 hF=>wAS (l':=[(0,u1),(1,u2),(3,u5),(6,(ptr b1 0)),(10,v7),(15,v14),(17,(I x29.1)),(18,(I x30)),(103,(.bool x27)),(104,v14),(105,(I 1)),(106,(I x29.1)),(107,v14),(108,(I 1)),(109,(I x30)),(110,(I x30)),(111,(.bool (decide (x30 < 0)))),(112,(I x30)),(113,(I x29.1)),(114,(.bool (!decide (x30=x29.1)))),(115,u1),(117,u2),(121,u5)]) ⟨z,z,z,z,z,z,z,z,z,z,z,z,z,z,z,z,z,z,z,z,z,z,z,Ah⟩<|Bq [⟨1,[],fun vs=>BX x31,[]⟩,⟨3,[],fun vs=>BX x32,[]⟩,⟨4,[],fun vs=>Bg (.agg #[u3,u4]),[]⟩] [[],[],[]] 4 z (by kernel_rfl) (by kernel_rfl) z ?_ ?_
 ·refine Aq z ?_ ?_
  ·intro w44 hB37
   refine Ax<|⟨_,z,?_⟩
   refine Bc Cr z z (c_Q_toIntS a1 u1 (g1.now (hC52.keep.then hB37)) x31 hr31) ?_
   rintro v23 w42 ⟨hB35,F15,hv25,hn22,hb22⟩
   exact Ab<|BW hB35 z z hv25 hn22 hb22 (Val.inh hv25)
  refine Aq z ?_ ?_
  ·intro w44 hB37
   refine Ax<|⟨_,z,?_⟩
   refine Bc Dp z z (c_Q_toMethodS a2 u2 (g2.now (hC52.keep.then hB37)) x32 hr32) ?_
   rintro v24 w43 ⟨hB36,F16,hv26,hn23,hb23⟩
   exact Ab<|BW hB36 z z hv26 hn23 hb23 (Val.inh hv26)
  refine Aq z ?_ ?_
  ·intro w44 hB37
   refine Ax<|⟨_,z,?_⟩
   exact A4 [u3,u4] (hC52.grow hB37) 2 z z z CN C9 z z<|Ab<|A3 (Am _ _) z z ⟨z,z⟩
  exact Bl
 intro w45 hB38
 refine Av z z z fun v23 F15 hv25=>Av z z z fun v24 F16 hv26=>Av z z z<|?_
 rintro _ _ ⟨rfl,rfl⟩
 refine Bv ?_
 intro hn24 hb24
 have hC53:=hC52.pushL hB38 (Bs:=[Ad v24 (x32:(List (Int × (List Int) × Int × Int × Int))),Ad v23 (x31:(List Int))]) (Fs:=[F16,F15]) ⟨F16,_,z,hv26,F15,_,z,hv25,z⟩ (by simpa using hn24) (fun b h=>(hb24 b (by simpa using h)).1)
 refine be hF fun x33 hr33 hF=>oe 5 z<|Bc Dq z z (c_Q_toQuery (a3.1,a3.2) u3 (g3.now hC53.keep) u4 (g4.now hC53.keep) x33 hr33)<|?_
 rintro v25 w46 ⟨hB39,F17,hv27,hn25,hb25⟩
 have hC54:=hC53.push hB39 (A:=Ad v25 x33) hv27 hn25 hb25
 obtain ⟨v26,v27,rfl,hC55⟩:=st43_own hC54
 refine Ab<|be hF fun x34 hr34 hF=>oe 7 z<|Bc Dr z z (c_Q_toToldS a4 u5 (g5.now hC55.keep) x34 hr34)<|?_
 rintro v28 w47 ⟨hB40,F18,hv28,hn26,hb26⟩
 have hC56:=hC55.push hB40 (A:=Ad v28 x34) hv28 hn26 hb26
 refine Ab<|be hF fun x35 hr35 hF=>oe 8 z<|Bc Tryz.call25 z z (c_M_TrustedAnswers x31 v23 ((hC56.ro 4 z).now (AP _ _)) x32 v24 ((hC56.ro 3 z).now (AP _ _)) x33 v26 ((hC56.ro 1 z).now (AP _ _)) v27 ((hC56.ro 2 z).now (AP _ _)) x34 v28 ((hC56.ro 0 z).now (AP _ _)) x35 hr35)<|?_
 rintro v29 w48 ⟨hB41,F19,hv29,hn27,hb27⟩
 have hC57:=hC56.push hB41 (A:=Ad v29 x35) hv29 hn27 hb27
 refine Ab<|ta 9 z z z<|dn<|Aj<|A0<|Ac<|Af z z<|Af z z<|be hF fun x36 hr36 hF=>cb Tryz.call34 z z (c_Q_eqIntSS x35 v29 ((hC57.ro 0 z).now (AP _ _)) x8 v7 ((hC57.ro 7 z).now (AP _ _)) x36 hr36) fun w49 hB42=>have hC58:=hC57.grow hB42;Bw z z<|Ab<|A7 z (fun hc14=>?_) (fun hc14=>?_)
 ·replace hF:=A9 hF hc14
  refine Ac<|Ae z z<|Ab<|AC<|Ar<|?_
  obtain rfl:=Aa hF
  exact Ay z z<|⟨_,z,AD hC58 _⟩
 replace hF:=AA hF hc14
 refine A6<|Aj<|Ac<|Ae z z<|Ab<|Ac<|Af z z<|Af z z<|be hF fun x37 hr37 hF=>ci Tryz.call44 z z (c_Q_heldIntSS x29.2 v14 ((hC58.ro 6 z).now (AP _ _)) 1 x37 hr37) fun w50 hB43=>have hC59:=hC58.grow hB43;Ae z z<|Ab<|A0<|Ac<|Af z z<|AW z z z<|Ab<|A7 z (fun hc15=>?_) (fun hc15=>?_)
 ·replace hF:=A9 hF hc15
  refine Ac<|Ae z z<|Ab<|AC<|Ar<|?_
  obtain rfl:=Aa hF
  exact Ay z z<|⟨_,z,AD hC59 _⟩
 replace hF:=AA hF hc15
 refine A6<|Aj<|A0<|Ac<|Af z z<|Af z z<|BI z z z<|Ab<|A7 z (fun hc16=>?_) (fun hc16=>?_)
 ·replace hF:=A9 hF hc16
  refine Ac<|Ae z z<|Ab<|AC<|Ar<|?_
  obtain rfl:=Aa hF
  exact Ay z z<|⟨_,z,AD hC59 _⟩
 replace hF:=AA hF hc16
 refine A6<|Aj<|Ac<|Ae z z<|Ab<|AC<|?_
 obtain rfl:=Aa hF
 exact Ay z z<|⟨_,z,AD hC59 _⟩
end Go.Gx.Px
