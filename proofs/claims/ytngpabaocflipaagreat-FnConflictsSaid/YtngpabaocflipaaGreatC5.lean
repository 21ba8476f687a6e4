/- The contracts of the Go functions against the pure functions, printed by program. Conditions: each says them. -/
import Derived.Test.YtngpabaocflipaaGreatC4
set_option linter.unusedVariables false
set_option linter.unusedSimpArgs false
set_option maxRecDepth 100000
set_option maxHeartbeats 4000000
namespace Go.Gx.Px
open Go.Proofs Go.RowKit
open K9
theorem c_M_UnionOf {w0:World} (a1:(List ((Int × (List Int)) × (List (Int × (List Int)))))) (u1:Value) (g1:RO [] w0 u1 a1) (rr:(List (Int × (List Int)))) (hF:M.UnionOf a1=some rr) :
 Calls Tryz.prog 13 [u1].toArray w0 fun e w'=>∃v,e=.returned v∧Res w0 rr v w':=by
 refine Ax Tryz.func13 z z ?_
 have hC0:=A5 w0
 unfold M.UnionOf at hF
 refine Ac<|Ad z z<|Ab<|Ac<|AC (vs:=[]) hC0 Ai ty88 z z z z (by simp) z z fun b1 w1 hC1 hB1=>?_
 have hC2:=hC1.row0 (α:=(Int × (List Int)))
 have hC3:=hC2.front 1 z
 dsimp only [List.eraseIdx,List.cons_append,List.nil_append,List.append_nil] at hC3
 have hC4:Ctx [] w0 w1 (Af (.slice (some ⟨b1,0,none⟩) 0 0) (([]:List (Int × (List Int))):List (Int × (List Int)))::[]):=hC3.rowOwn (by simp [maxLen])
 refine Ad z z<|Ab<|A6<|Ac<|Ae z z<|Bc A0 g1 z z<|Ae z z<|Ab<|be hF fun r1 hr1 hF=>Bi (fun l w=>∃v2:Value,∃x3:(List (Int × (List Int))),x3=r1∧l=[(3,v2)]∧Ctx [] w0 w [Af v2 (x3:(List (Int × (List Int))))]) ?_ ?_
 ·refine AJ<|wS (l':=[(3,(.slice (some ⟨b1,0,none⟩) 0 0)),(9,u1),(10,(I (List.length a1:Int))),(11,(I 0))]) ⟨z,z,z,z,Aj⟩<|B2 (fun k l w=>∃v1:Value,∃x1:(List (Int × (List Int))),∃x2:Int,l=[(3,v1),(9,u1),(10,(I (List.length a1:Int))),(11,(I x2))]∧Ctx [] w0 w [Af v1 (x1:(List (Int × (List Int))))]∧M.UnionOf_l1 a1 k x1 x2=some r1) FUEL ⟨(.slice (some ⟨b1,0,none⟩) 0 0),([]:List (Int × (List Int))),0,z,hC4,hr1⟩<|?_
  clear hr1
  rintro k1 _ w2 ⟨v1,x1,x2,rfl,hC5,hL1⟩
  cases k1 with
  | zero=>rw [M.UnionOf_l1] at hL1; cases hL1
  | succ k1 =>
   rw [M.UnionOf_l1] at hL1
   refine Ac<|Bv z z z<|Ab<|A6<|AE z (fun hc1=>?_) (fun hc1=>?_)
   ·replace hL1:=A7 hL1 hc1
    refine AF<|Ap<|A6<|AJ<|Ac<|be hL1 fun x4 hx1 hL1=>AH A0 ty46 g1 hx1 z z z fun b2 o1 h1=>AI ty46 h1 hC5.keep z z fun v3 h2=>?_
    obtain ⟨v4,v5,rfl,h3,h4⟩:=Cr h2
    refine Bw hC5 zero46 z z fun b3 w3 hC6 hB3 hN1=>AA (cs':=[(I x4.1.1),v4,v5]) (new:=[(I x4.1.1),v4,v5]) hC6 0 z z (fac z<|fac (B0 h3)<|fac (B0 h4)<|fa0) z AT z z fun w4 hC7 hKp1=>?_
    try dsimp only [List.set] at hC7
    have hk1:=AO (Ao hB3) hN1 hKp1
    refine Ab<|Ac<|fd AK Bp z z z z<|Aq hC7 0 z z BA z z<|Bc Ai h4 z z<|Ae z z<|Ab<|be hL1 fun r2 hr2 hL1=>Bi (fun l w=>∃v7:Value,∃x7:(List (Int × (List Int))),x7=r2∧l=[(3,v7),(9,u1),(10,(I (List.length a1:Int))),(11,(I x2))]∧Ctx [] w0 w [Af v7 (x7:(List (Int × (List Int))))]) ?_ ?_
    ·refine AJ<|have hC14:=hC7.f1;have hC15:=hC14.h1;wS (l':=[(3,v1),(9,u1),(10,(I (List.length a1:Int))),(11,(I x2)),(16,v5),(17,(I (List.length x4.2:Int))),(18,(I 0))]) ⟨z,z,z,z,z,z,z,Aj⟩<|B2 (fun k l w=>∃v6:Value,∃x5:(List (Int × (List Int))),∃x6:Int,l=[(3,v6),(9,u1),(10,(I (List.length a1:Int))),(11,(I x2)),(16,v5),(17,(I (List.length x4.2:Int))),(18,(I x6))]∧Ctx [] w0 w [Af v6 (x5:(List (Int × (List Int))))]∧M.UnionOf_l2 x4 k x5 x6=some r2) FUEL ⟨v1,x1,0,z,hC15,hr2⟩<|?_
     clear hr2
     rintro k2 _ w5 ⟨v6,x5,x6,rfl,hC8,hL2⟩
     cases k2 with
     | zero=>rw [M.UnionOf_l2] at hL2; cases hL2
     | succ k2 =>
      rw [M.UnionOf_l2] at hL2
      refine Ac<|Bv z z z<|Ab<|A6<|AE z (fun hc2=>?_) (fun hc2=>?_)
      ·replace hL2:=A7 hL2 hc2
       refine AF<|Ap<|A6<|AJ<|Ac<|be hL2 fun x8 hx2 hL2=>AH Ai ty88 h4 hx2 z z z fun b4 o2 h5=>AI ty88 h5 hC8.keep z z fun v8 h6=>?_
       obtain ⟨v9,rfl,h7⟩:=BD h6
       refine Bw hC8 zero88 z z fun b5 w6 hC9 hB5 hN2=>AA (cs':=[(I x8.1),v9]) (new:=[(I x8.1),v9]) hC9 0 z z (fac z<|fac (B0 h7)<|fa0) z AP z z fun w7 hC10 hKp2=>?_
       try dsimp only [List.set] at hC10
       have hk2:=AO (Ao hB5) hN2 hKp2
       refine Ab<|Bg<|Ae z z<|Au [(I x8.1),v9] hC10 0 z z z Bl AP z z<|be hL2 fun x9 hr3 hL2=>have hC11:=hC10.f1;?_
       obtain ⟨Fs1,hH1,hn1,hF1,hO1,hb1⟩:=AX (As:=[Ag b5 [(I x8.1),v9]]) [Af v6 (x5:(List (Int × (List Int))))] hC11
       refine AG Tryz.call68 z z (c_M_added x5 v6 (x8.1,x8.2) v9 (Bf h7 hC11.keep hF1) hH1 hn1 x9 hr3) ?_
       rintro v10 w9 ⟨_,rfl,hq1⟩
       have hC12:Ctx [] w0 w9 [Af v10 (x9:(List (Int × (List Int)))),Ag b5 [(I x8.1),v9]]:=hb1 _ _ hq1
       exact Ad z z<|Ab<|AU<|Ap<|Bg<|Bn z z z<|Ae z z<|Ab<|have hC13:=hC12.h1;Am (l':=[(3,v10),(9,u1),(10,(I (List.length a1:Int))),(11,(I x2)),(16,v5),(17,(I (List.length x4.2:Int))),(18,(I (w64 (x6+1))))]) ⟨z,z,z,z,z,z,z,Aj⟩<|⟨k2,A3 _,v10,x9,w64 (x6+1),z,hC13,hL2⟩
      replace hL2:=A8 hL2 hc2
      refine B1 (A9 (A9 (Bk ?_)))
      obtain rfl:=Aa hL2
      exact Am (l':=[(3,v6),(9,u1),(10,(I (List.length a1:Int))),(11,(I x2))]) ⟨z,z,z,z,Aj⟩<|⟨v6,x5,z,z,hC8⟩
    rintro l3 _ w10 hs3 ⟨v7,x7,rfl,rfl,hC16⟩
    try dsimp only at hL1
    refine AU<|AY hs3<|?_
    clear hs3
    exact Bg<|Bn z z z<|Ae z z<|Ab<|Am (l':=[(3,v7),(9,u1),(10,(I (List.length a1:Int))),(11,(I (w64 (x2+1))))]) ⟨z,z,z,z,Aj⟩<|⟨k1,A3 _,v7,x7,w64 (x2+1),z,hC16,hL1⟩
   replace hL1:=A8 hL1 hc1
   refine B1 (A9 (A9 (Bk ?_)))
   obtain rfl:=Aa hL1
   exact Am (l':=[(3,v1)]) ⟨z,Aj⟩<|⟨v1,x1,z,z,hC5⟩
 rintro l4 _ w11 hs4 ⟨v2,x3,rfl,rfl,hC17⟩
 try dsimp only at hF
 refine AY hs4 ?_
 clear hs4
 refine Ac<|Ae z z<|Ad z z<|Ab<|AL<|?_
 obtain rfl:=Aa hF
 exact A2 z z<|⟨_,z,BY hC17 0 z⟩
theorem c_S_SameFacts {w0:World} (a1:(List (Int × (List Int)))) (u1:Value) (g1:RO [] w0 u1 a1) (a2:(List (Int × (List Int)))) (u2:Value) (g2:RO [] w0 u2 a2) (rr:Bool) (hF:S.SameFacts a1 a2=some rr) :
 Calls Tryz.prog 14 [u1,u2].toArray w0 fun e w'=>∃v,e=.returned v∧Res w0 rr v w':=by
 refine Ax Tryz.func14 z z ?_
 have hC0:=A5 w0
 unfold S.SameFacts at hF
 refine Ac<|Ad z z<|Ab<|A6<|Ac<|Ae z z<|Bc Ai g1 z z<|Ae z z<|Bc Ai g2 z z<|Ch z z z<|Ab<|AE z (fun hc1=>?_) (fun hc1=>?_)
 ·replace hF:=A7 hF hc1
  refine Ac<|Ad z z<|Ab<|AL<|Av<|?_
  obtain rfl:=Aa hF
  exact A2 z z<|⟨_,z,AN hC0 _⟩
 replace hF:=A8 hF hc1
 refine AF<|Ap<|A6<|Ac<|Ad z z<|Ab<|be hF fun r1 hr1 hF=>Bi (fun l w=>.inl ()=r1∧l=[]∧Below w0.heap.size w0 w∧Ctx [] w0 w []) ?_ ?_
 ·refine AJ<|wS (l':=[(0,u1),(1,u2),(5,(I 0))]) ⟨z,z,z,Aj⟩<|B2 (fun k l w=>∃x1:Int,l=[(0,u1),(1,u2),(5,(I x1))]∧Below w0.heap.size w0 w∧Ctx [] w0 w []∧S.SameFacts_l1 a1 a2 k x1=some r1) FUEL ⟨0,z,(Al _ _),hC0,hr1⟩<|?_
  clear hr1
  rintro k1 _ w1 ⟨x1,rfl,hB1,hC1,hL1⟩
  cases k1 with
  | zero=>rw [S.SameFacts_l1] at hL1; cases hL1
  | succ k1 =>
   rw [S.SameFacts_l1] at hL1
   refine A6<|Ac<|Ae z z<|Ae z z<|Bc Ai g1 z z<|Bv z z z<|Ab<|AE z (fun hc2=>?_) (fun hc2=>?_)
   ·replace hL1:=A7 hL1 hc2
    refine AF<|Ap<|A6<|AJ<|A6<|W_drawn 10 z hmix fun w2 hB2=>have hC2:=hC1.grow hB2;tm 0 z z z<|tm 1 z z z<|be hL1 fun x2 hx1 hL1=>tk 2 z z (BG Ai ty88 g1 hx1 z z)<|AH Ai ty88 g1 hx1 z z z fun b1 o1 h1=>Ab<|tm 4 z z z<|tm 5 z z z<|be hL1 fun x3 hx2 hL1=>tk 6 z z (BG Ai ty88 g2 hx2 z z)<|AH Ai ty88 g2 hx2 z z z fun b2 o2 h2=>Ab<|wAS (l':=[(0,u1),(1,u2),(5,(I x1)),(11,(I x1)),(12,u1),(13,(I (List.length a1:Int))),(14,(.bool (decide (x1 < (List.length a1:Int))))),(17,u1),(18,(I x1)),(19,(ptr b1 o1)),(21,u2),(22,(I x1)),(23,(ptr b2 o2))]) ⟨z,z,z,z,z,z,z,z,z,z,z,z,z,Aj⟩<|Bq [⟨3,[],fun vs=>Ce [] w0 x2,[]⟩,⟨7,[],fun vs=>Ce [] w0 x3,[]⟩] [[],[]] 2 z (by kernel_rfl) (by kernel_rfl) z ?_ ?_
    ·refine An z ?_ ?_
     ·intro w3 hB3
      refine At<|⟨_,z,?_⟩
      exact AI ty88 h1 (hC2.keep.then hB3) z z fun v3 h5=>Ab<|Aw (Al _ _) z z ⟨z,h5⟩
     refine An z ?_ ?_
     ·intro w3 hB3
      refine At<|⟨_,z,?_⟩
      exact AI ty88 h2 (hC2.keep.then hB3) z z fun v6 h8=>Ab<|Aw (Al _ _) z z ⟨z,h8⟩
     exact Bj
    intro w4 hB4
    refine Ar z z z ?_
    rintro v3 _ ⟨rfl,h5⟩
    obtain ⟨v2,rfl,h4⟩:=BD h5
    refine Ar z z z ?_
    rintro v6 _ ⟨rfl,h8⟩
    obtain ⟨v5,rfl,h7⟩:=BD h8
    refine Bt fun hn1 hb1=>have hC3:=hC2.grow hB4;be hL1 fun x4 hr2 hL1=>oe 8 z<|ci C3 z z (c_S_CompareFacts x2 v2 (h4.now hC3.keep) x3 v5 (h7.now hC3.keep) x4 hr2) fun w5 hB5=>have hC4:=hC3.grow hB5;Ab<|tk 9 z z (De z z)<|Ch z z z<|Ab<|dn<|Ap<|AE z (fun hc3=>?_) (fun hc3=>?_)
    ·replace hL1:=A7 hL1 hc3
     refine Ac<|Ad z z<|Ab<|AL<|Bd<|Av<|Av<|Bd<|Av<|Av<|?_
     obtain rfl:=Aa hL1
     dsimp only at hF
     obtain rfl:=Aa hF
     exact A2 z z<|⟨_,z,AN hC4 _⟩
    replace hL1:=A8 hL1 hc3
    exact AF<|AU<|Ap<|Bg<|Ae z z<|Bn z z z<|Ad z z<|Ab<|Am (l':=[(0,u1),(1,u2),(5,(I (w64 (x1+1))))]) ⟨z,z,z,Aj⟩<|⟨k1,A3 _,w64 (x1+1),z,((((Ao hB1).then hB2).then hB4).then hB5).below,hC4,hL1⟩
   replace hL1:=A8 hL1 hc2
   refine B1 (A9 (A9 (Bk ?_)))
   obtain rfl:=Aa hL1
   exact Am (l':=[]) Aj<|⟨z,z,(Ao hB1).below,hC1⟩
 rintro l2 _ w6 hs2 ⟨rfl,rfl,hB6,hC5⟩
 try dsimp only at hF
 refine AY hs2 ?_
 clear hs2
 refine Ac<|Ad z z<|Ab<|AL<|?_
 obtain rfl:=Aa hF
 exact A2 z z<|⟨_,z,AN hC5 _⟩
theorem c_S_UnionOf {w0:World} (a1:(List ((Int × (List Int)) × (List (Int × (List Int)))))) (u1:Value) (g1:RO [] w0 u1 a1) (rr:(List (Int × (List Int)))) (hF:S.UnionOf a1=some rr) :
 Calls Tryz.prog 15 [u1].toArray w0 fun e w'=>∃v,e=.returned v∧Res w0 rr v w':=by
 refine Ax Tryz.func15 z z ?_
 have hC0:=A5 w0
 unfold S.UnionOf at hF
 refine Ac<|Ad z z<|Ab<|Ac<|AC (vs:=[]) hC0 Ai ty88 z z z z (by simp) z z fun b1 w1 hC1 hB1=>?_
 have hC2:=hC1.row0 (α:=(Int × (List Int)))
 have hC3:=hC2.front 1 z
 dsimp only [List.eraseIdx,List.cons_append,List.nil_append,List.append_nil] at hC3
 have hC4:Ctx [] w0 w1 (Af (.slice (some ⟨b1,0,none⟩) 0 0) (([]:List (Int × (List Int))):List (Int × (List Int)))::[]):=hC3.rowOwn (by simp [maxLen])
 refine Ad z z<|Ab<|A6<|Ac<|Ad z z<|Ab<|be hF fun r1 hr1 hF=>Bi (fun l w=>∃v2:Value,∃x3:(List (Int × (List Int))),x3=r1∧l=[(3,v2)]∧Below w1.heap.size w1 w∧Ctx [] w0 w [Af v2 (x3:(List (Int × (List Int))))]) ?_ ?_
 ·refine AJ<|wS (l':=[(0,u1),(3,(.slice (some ⟨b1,0,none⟩) 0 0)),(4,(I 0))]) ⟨z,z,z,Aj⟩<|B2 (fun k l w=>∃v1:Value,∃x1:(List (Int × (List Int))),∃x2:Int,l=[(0,u1),(3,v1),(4,(I x2))]∧Below w1.heap.size w1 w∧Ctx [] w0 w [Af v1 (x1:(List (Int × (List Int))))]∧S.UnionOf_l1 a1 k x1 x2=some r1) FUEL ⟨(.slice (some ⟨b1,0,none⟩) 0 0),([]:List (Int × (List Int))),0,z,(Al _ _),hC4,hr1⟩<|?_
  clear hr1
  rintro k1 _ w2 ⟨v1,x1,x2,rfl,hB2,hC5,hL1⟩
  cases k1 with
  | zero=>rw [S.UnionOf_l1] at hL1; cases hL1
  | succ k1 =>
   rw [S.UnionOf_l1] at hL1
   refine A6<|Ac<|Ae z z<|Ae z z<|Bc A0 g1 z z<|Bv z z z<|Ab<|AE z (fun hc1=>?_) (fun hc1=>?_)
   ·replace hL1:=A7 hL1 hc1
    refine AF<|Ap<|A6<|AJ<|Ac<|Ad z z<|Ab<|be hL1 fun r2 hr2 hL1=>Bi (fun l w=>∃v4:Value,∃x6:(List (Int × (List Int))),x6=r2∧l=[(0,u1),(3,v4),(4,(I x2))]∧Below w2.heap.size w2 w∧Ctx [] w0 w [Af v4 (x6:(List (Int × (List Int))))]) ?_ ?_
    ·refine AJ<|wS (l':=[(0,u1),(3,v1),(4,(I x2)),(5,(I 0))]) ⟨z,z,z,z,Aj⟩<|B2 (fun k l w=>∃v3:Value,∃x4:(List (Int × (List Int))),∃x5:Int,l=[(0,u1),(3,v3),(4,(I x2)),(5,(I x5))]∧Below w2.heap.size w2 w∧Ctx [] w0 w [Af v3 (x4:(List (Int × (List Int))))]∧S.UnionOf_l2 a1 x2 k x4 x5=some r2) FUEL ⟨v1,x1,0,z,(Al _ _),hC5,hr2⟩<|?_
     clear hr2
     rintro k2 _ w3 ⟨v3,x4,x5,rfl,hB3,hC6,hL2⟩
     cases k2 with
     | zero=>rw [S.UnionOf_l2] at hL2; cases hL2
     | succ k2 =>
      rw [S.UnionOf_l2] at hL2
      refine A6<|Ac<|Ae z z<|Ae z z<|Ae z z<|be hL2 fun x7 hx1 hL2=>AH A0 ty46 g1 hx1 z z z fun b2 o1 h1=>fd AK Bp z z z z<|AI ty31 h1.snd hC6.keep z z fun v5 h2=>Bc Ai h2 z z<|Bv z z z<|Ab<|AE z (fun hc2=>?_) (fun hc2=>?_)
      ·replace hL2:=A7 hL2 hc2
       refine AF<|Ap<|A6<|AJ<|Bg<|Ae z z<|Ae z z<|Ae z z<|be hL2 fun x8 hx2 hL2=>AH A0 ty46 g1 hx2 z z z fun b3 o2 h3=>fd AK Bp z z z z<|AI ty31 h3.snd hC6.keep z z fun v6 h4=>Ae z z<|be hL2 fun x9 hx3 hL2=>AH Ai ty88 h4 hx3 z z z fun b4 o3 h5=>AI ty88 h5 hC6.keep z z fun v7 h6=>?_
       obtain ⟨v8,rfl,h7⟩:=BD h6
       refine be hL2 fun x10 hr3 hL2=>AG CT z z (c_S_AddFact x4 v3 ((hC6.ro 0 z).now (A1 _ _)) x9 v8 (h7.now hC6.keep) x10 hr3)<|?_
       rintro v9 w4 ⟨hB4,F1,hv1,hn1,hb1⟩
       have hC7:=hC6.push hB4 (A:=Af v9 x10) hv1 hn1 hb1
       exact Ad z z<|Ab<|AU<|Ap<|Bg<|Ae z z<|Bn z z z<|Ad z z<|Ab<|have hC8:=hC7.h1;Am (l':=[(0,u1),(3,v9),(4,(I x2)),(5,(I (w64 (x5+1))))]) ⟨z,z,z,z,Aj⟩<|⟨k2,A3 _,v9,x10,w64 (x5+1),z,((Ao hB3).then hB4).below,hC8,hL2⟩
      replace hL2:=A8 hL2 hc2
      refine B1 (A9 (A9 (Bk ?_)))
      obtain rfl:=Aa hL2
      exact Am (l':=[(0,u1),(3,v3),(4,(I x2))]) ⟨z,z,z,Aj⟩<|⟨v3,x4,z,z,(Ao hB3).below,hC6⟩
    rintro l3 _ w5 hs3 ⟨v4,x6,rfl,rfl,hB5,hC9⟩
    try dsimp only at hL1
    refine AU<|AY hs3<|?_
    clear hs3
    exact Bg<|Ae z z<|Bn z z z<|Ad z z<|Ab<|Am (l':=[(0,u1),(3,v4),(4,(I (w64 (x2+1))))]) ⟨z,z,z,Aj⟩<|⟨k1,A3 _,v4,x6,w64 (x2+1),z,((Ao hB2).then hB5).below,hC9,hL1⟩
   replace hL1:=A8 hL1 hc1
   refine B1 (A9 (A9 (Bk ?_)))
   obtain rfl:=Aa hL1
   exact Am (l':=[(3,v1)]) ⟨z,Aj⟩<|⟨v1,x1,z,z,(Ao hB2).below,hC5⟩
 rintro l4 _ w6 hs4 ⟨v2,x3,rfl,rfl,hB6,hC10⟩
 try dsimp only at hF
 refine AY hs4 ?_
 clear hs4
 refine Ac<|Ae z z<|Ad z z<|Ab<|AL<|?_
 obtain rfl:=Aa hF
 exact A2 z z<|⟨_,z,BY hC10 0 z⟩
theorem c_M_IsConsistent {w0:World} (a1:(List Int)) (u1:Value) (g1:RO [] w0 u1 a1) (a2:(List (Int × (List Int) × Int × Int × Int))) (u2:Value) (g2:RO [] w0 u2 a2) (a3:(List ((Int × (List Int)) × (List (Int × (List Int)))))) (u3:Value) (g3:RO [] w0 u3 a3) (rr:Bool) (hF:M.IsConsistent a1 a2 a3=some rr) :
 Calls Tryz.prog 16 [u1,u2,u3].toArray w0 fun e w'=>∃v,e=.returned v∧Res w0 rr v w':=by
 refine Ax Tryz.func16 z z ?_
 have hC0:=A5 w0
 unfold M.IsConsistent at hF
 refine Ac<|Ad z z<|Ab<|Ac<|Ae z z<|Ae z z<|Ae z z<|be hF fun x1 hr1 hF=>AG Tryz.call11 z z (c_M_FirstConflict a1 u1 (g1.now hC0.keep) a2 u2 (g2.now hC0.keep) a3 u3 (g3.now hC0.keep) x1 hr1)<|?_
 rintro _ w1 ⟨hB1,v1,v2,v3,F1,F2,F3,rfl,hv1,hv2,hv3,hn1,hb1⟩
 obtain ⟨rfl,rfl⟩:=val_int hv1
 obtain ⟨rfl,rfl⟩:=val_int hv2
 obtain ⟨rfl,rfl⟩:=val_bool hv3
 have hC1:=hC0.grow hB1
 refine Ae z z<|Bh z z z<|Bh z z z<|Bh z z z<|Ad z z<|Ad z z<|Ad z z<|Ab<|be hF fun r1 hr2 hF=>BI (fun l w=>∃x2:Bool,x2=r1∧l=[(6,(.bool x2))]∧Below w1.heap.size w1 w∧Ctx [] w0 w []) ?_ ?_
 ·refine Bg<|Ae z z<|Ae z z<|be hr2 fun x3 hr3 hr2=>cb Tryz.call71 z z (c_M_AreMethods a1 u1 (g1.now hC1.keep) a2 u2 (g2.now hC1.keep) x3 hr3) fun w3 hB3=>have hC3:=hC1.grow hB3;Ae z z<|Bz (fun hc1=>?_) (fun hc1=>?_)
  ·replace hr2:=A7 hr2 hc1
   refine Ah z z<|Ae z z<|Ah z z<|B3 z z<|AW z z z<|Ad z z<|Ab<|?_
   obtain rfl:=Aa hr2
   exact Am (l':=[(6,(.bool (!x1.2.2)))]) ⟨z,Aj⟩<|⟨(!x1.2.2),z,z,(Ao hB3).below,hC3⟩
  replace hr2:=A8 hr2 hc1
  refine gs z z z z<|gs z z z z<|AZ z z z<|Ad z z<|Ab<|?_
  obtain rfl:=Aa hr2
  exact Am (l':=[(6,(.bool false))]) ⟨z,Aj⟩<|⟨false,z,z,(Ao hB3).below,hC3⟩
 rintro _ w2 ⟨x2,rfl,rfl,hB2,hC2⟩
 try dsimp only at hF
 refine AL ?_
 obtain rfl:=Aa hF
 exact A2 z z<|⟨_,z,AN hC2 _⟩
theorem c_S_IsConsistent {w0:World} (a1:(List Int)) (u1:Value) (g1:RO [] w0 u1 a1) (a2:(List (Int × (List Int) × Int × Int × Int))) (u2:Value) (g2:RO [] w0 u2 a2) (a3:(List ((Int × (List Int)) × (List (Int × (List Int)))))) (u3:Value) (g3:RO [] w0 u3 a3) (rr:Bool) (hF:S.IsConsistent a1 a2 a3=some rr) :
 Calls Tryz.prog 17 [u1,u2,u3].toArray w0 fun e w'=>∃v,e=.returned v∧Res w0 rr v w':=by
 refine Ax Tryz.func17 z z ?_
 have hC0:=A5 w0
 unfold S.IsConsistent at hF
 refine Ac<|Ad z z<|Ab<|Ac<|Ae z z<|Ae z z<|Ae z z<|be hF fun x1 hr1 hF=>AG Tryz.call12 z z (c_S_FirstConflict a1 u1 (g1.now hC0.keep) a2 u2 (g2.now hC0.keep) a3 u3 (g3.now hC0.keep) x1 hr1)<|?_
 rintro _ w1 ⟨hB1,v1,v2,v3,F1,F2,F3,rfl,hv1,hv2,hv3,hn1,hb1⟩
 obtain ⟨rfl,rfl⟩:=val_int hv1
 obtain ⟨rfl,rfl⟩:=val_int hv2
 obtain ⟨rfl,rfl⟩:=val_bool hv3
 have hC1:=hC0.grow hB1
 refine Ae z z<|Bh z z z<|Bh z z z<|Bh z z z<|Ad z z<|Ad z z<|Ad z z<|Ab<|be hF fun r1 hr2 hF=>BI (fun l w=>∃x2:Bool,x2=r1∧l=[(6,(.bool x2))]∧Below w1.heap.size w1 w∧Ctx [] w0 w []) ?_ ?_
 ·refine Bg<|Ae z z<|Ae z z<|be hr2 fun x3 hr3 hr2=>cb Cw z z (c_S_AreMethods a1 u1 (g1.now hC1.keep) a2 u2 (g2.now hC1.keep) x3 hr3) fun w3 hB3=>have hC3:=hC1.grow hB3;Ae z z<|Bz (fun hc1=>?_) (fun hc1=>?_)
  ·replace hr2:=A7 hr2 hc1
   refine Ah z z<|Ae z z<|Ah z z<|B3 z z<|AW z z z<|Ad z z<|Ab<|?_
   obtain rfl:=Aa hr2
   exact Am (l':=[(6,(.bool (!x1.2.2)))]) ⟨z,Aj⟩<|⟨(!x1.2.2),z,z,(Ao hB3).below,hC3⟩
  replace hr2:=A8 hr2 hc1
  refine gs z z z z<|gs z z z z<|AZ z z z<|Ad z z<|Ab<|?_
  obtain rfl:=Aa hr2
  exact Am (l':=[(6,(.bool false))]) ⟨z,Aj⟩<|⟨false,z,z,(Ao hB3).below,hC3⟩
 rintro _ w2 ⟨x2,rfl,rfl,hB2,hC2⟩
 try dsimp only at hF
 refine AL ?_
 obtain rfl:=Aa hF
 exact A2 z z<|⟨_,z,AN hC2 _⟩
theorem c_M_areAscending {w0:World} (a1:(List Int)) (u1:Value) (g1:RO [] w0 u1 a1) (a2:(List (Int × (List Int)))) (u2:Value) (g2:RO [] w0 u2 a2) (rr:Bool) (hF:M.areAscending a1 a2=some rr) :
 Calls Tryz.prog 74 [u1,u2].toArray w0 fun e w'=>∃v,e=.returned v∧Res w0 rr v w':=by
 refine Ax Tryz.func74 z z ?_
 have hC0:=A5 w0
 unfold M.areAscending at hF
 refine Ac<|Ad z z<|Ab<|A6<|Ac<|Ae z z<|Bc Ai g2 z z<|Ae z z<|Ab<|be hF fun r1 hr1 hF=>Bi (fun l w=>.inl ()=r1∧l=[]∧Ctx [] w0 w []) ?_ ?_
 ·refine AJ<|wS (l':=[(0,u1),(1,u2),(7,u2),(8,(I (List.length a2:Int))),(9,(I 0))]) ⟨z,z,z,z,z,Aj⟩<|B2 (fun k l w=>∃x1:Int,l=[(0,u1),(1,u2),(7,u2),(8,(I (List.length a2:Int))),(9,(I x1))]∧Ctx [] w0 w []∧M.areAscending_l1 a2 a1 k x1=some r1) FUEL ⟨0,z,hC0,hr1⟩<|?_
  clear hr1
  rintro k1 _ w1 ⟨x1,rfl,hC1,hL1⟩
  cases k1 with
  | zero=>rw [M.areAscending_l1] at hL1; cases hL1
  | succ k1 =>
   rw [M.areAscending_l1] at hL1
   refine Ac<|Bv z z z<|Ab<|A6<|AE z (fun hc1=>?_) (fun hc1=>?_)
   ·replace hL1:=A7 hL1 hc1
    refine AF<|Ap<|A6<|AJ<|Ac<|Ae z z<|be hL1 fun x2 hx1 hL1=>AH Ai ty88 g2 hx1 z z z fun b1 o1 h1=>AI ty88 h1 hC1.keep z z fun v1 h2=>?_
    obtain ⟨v2,rfl,h3⟩:=BD h2
    refine Bw hC1 zero88 z z fun b2 w2 hC2 hB2 hN1=>Ad z z<|AA (cs':=[(I x2.1),v2]) (new:=[(I x2.1),v2]) hC2 0 z z (fac z<|fac (B0 h3)<|fa0) z AP z z fun w3 hC3 hKp1=>?_
    try dsimp only [List.set] at hC3
    have hk1:=AO (Ao hB2) hN1 hKp1
    refine Ab<|be hL1 fun r2 hr2 hL1=>BI (fun l w=>∃x3:Bool,x3=r2∧l=[(0,u1),(1,u2),(7,u2),(8,(I (List.length a2:Int))),(9,(I x1)),(31,(.bool x3))]∧Below w3.heap.size w3 w∧Ctx [] w0 w []) ?_ ?_
    ·refine W_drawn 18 z hmix fun w5 hB4=>have hC5:=hC3.grow hB4;tm 0 z z z<|oe 1 z<|Au [(I x2.1),v2] hC5 0 z z z Bl AP z z<|Ab<|be hr2 fun x4 hr3 hr2=>oe 2 z<|cb Tryz.call137 z z (c_M_IsFact a1 u1 (g1.now hC5.keep) (x2.1,x2.2) v2 (h3.now hC5.keep) x4 hr3) fun w6 hB5=>have hC6:=hC5.grow hB5;Ab<|tk 3 z z (Cl z)<|B3 z z<|Ab<|tm 4 z z z<|BC (fun hc2=>?_) (fun hc2=>?_)
     ·replace hr2:=A7 hr2 hc2
      refine sk 5 z z z z z<|sk 6 z z z z z<|sk 7 z z z z z<|sk 8 z z z z z<|sk 9 z z z z z<|sk 10 z z z z z<|sk 11 z z z z z<|sk 12 z z z z z<|sk 13 z z z z z<|sk 14 z z z z z<|sk 15 z z z z z<|sk 16 z z z z z<|tp 17 z z z z<|dn<|?_
      obtain rfl:=Aa hr2
      have hC7:=hC6.h0
      exact Am (l':=[(0,u1),(1,u2),(7,u2),(8,(I (List.length a2:Int))),(9,(I x1)),(31,(.bool true))]) ⟨z,z,z,z,z,z,Aj⟩<|⟨true,z,z,((Ao hB4).then hB5).below,hC7⟩
     replace hr2:=A8 hr2 hc2
     refine tn 5 z z z z z<|tg 6 z z z z (Dd z z)<|Ah z z<|Ca z z z<|Ab<|tn 7 z z z z z<|BC (fun hc3=>?_) (fun hc3=>?_)
     ·replace hr2:=A7 hr2 hc3
      refine tn 8 z z z z z<|tn 9 z z z z z<|tg 10 z z z z (Ct z z)<|Ah z z<|BR z z z<|Ab<|be hr2 fun x5 hx2 hr2=>tg 11 z z z z (BG Ai ty88 g2 hx2 z z)<|Ah z z<|AH Ai ty88 g2 hx2 z z z fun b3 o2 h4=>Ab<|wAS (l':=[(0,u1),(1,u2),(5,(I x1)),(6,(ptr b2 0)),(7,u2),(8,(I (List.length a2:Int))),(9,(I x1)),(10,(.bool (decide (x1 < (List.length a2:Int))))),(11,(I x1)),(12,(ptr b1 o1)),(13,(.agg #[(I x2.1),v2])),(14,u1),(15,(.agg #[(I x2.1),v2])),(16,(.bool x4)),(17,(.bool (!x4))),(18,(.bool false)),(19,(I x1)),(20,(.bool (decide (0 < x1)))),(21,(.bool true)),(22,u2),(23,(I x1)),(24,(I (w64 (x1 - 1)))),(25,(ptr b3 o2))]) ⟨z,z,z,z,z,z,z,z,z,z,z,z,z,z,z,z,z,z,z,z,z,z,z,Aj⟩<|Bq [⟨12,[],fun vs=>Ce [] w0 x5,[]⟩,⟨13,[],fun vs=>Ba (.agg #[(I x2.1),v2]),[]⟩] [[],[]] 4 z (by kernel_rfl) (by kernel_rfl) z ?_ ?_
      ·refine An z ?_ ?_
       ·intro w7 hB6
        refine At<|⟨_,z,?_⟩
        exact Ah z z<|AI ty88 h4 (hC6.keep.then hB6) z z fun v5 h7=>Ab<|Aw (Al _ _) z z ⟨z,h7⟩
       refine An z ?_ ?_
       ·intro w7 hB6
        refine At<|⟨_,z,?_⟩
        exact Ah z z<|Au [(I x2.1),v2] (hC6.grow hB6) 0 z z z Bl AP z z<|Ab<|Aw (Al _ _) z z ⟨z,z⟩
       exact Bj
      intro w9 hB7
      refine Ar z z z ?_
      rintro v5 _ ⟨rfl,h7⟩
      obtain ⟨v4,rfl,h6⟩:=BD h7
      refine Ar z z z ?_
      rintro _ _ ⟨rfl,rfl⟩
      refine Bt fun hn1 hb1=>have hC8:=hC6.grow hB7;be hr2 fun x6 hr4 hr2=>oe 14 z<|Ah z z<|ci CN z z (c_M_CompareFacts x5 v4 (h6.now hC8.keep) (x2.1,x2.2) v2 (h3.now hC8.keep) x6 hr4) fun w10 hB8=>have hC9:=hC8.grow hB8;Ab<|tg 15 z z z z (fl_geq z z)<|Ah z z<|Cf z z z<|Ab<|tg 16 z z z z (Cg z z)<|Ah z z<|AW z z z<|Ab<|tq 17 z z z z<|dn<|?_
      obtain rfl:=Aa hr2
      have hC10:=hC9.h0
      exact Am (l':=[(0,u1),(1,u2),(7,u2),(8,(I (List.length a2:Int))),(9,(I x1)),(31,(.bool (decide (0 ≤ x6))))]) ⟨z,z,z,z,z,z,Aj⟩<|⟨(decide (0 ≤ x6)),z,z,((((Ao hB4).then hB5).then hB7).then hB8).below,hC10⟩
     replace hr2:=A8 hr2 hc3
     refine sk 8 z z z z z<|sk 9 z z z z z<|sk 10 z z z z z<|sk 11 z z z z z<|sk 12 z z z z z<|sk 13 z z z z z<|sk 14 z z z z z<|sk 15 z z z z z<|tg 16 z z z z (Ci z z)<|Ah z z<|AZ z z z<|Ab<|tq 17 z z z z<|dn<|?_
     obtain rfl:=Aa hr2
     have hC11:=hC6.h0
     exact Am (l':=[(0,u1),(1,u2),(7,u2),(8,(I (List.length a2:Int))),(9,(I x1)),(31,(.bool false))]) ⟨z,z,z,z,z,z,Aj⟩<|⟨false,z,z,((Ao hB4).then hB5).below,hC11⟩
    rintro _ w4 ⟨x3,rfl,rfl,hB3,hC4⟩
    try dsimp only at hL1
    refine AE z (fun hc4=>?_) (fun hc4=>?_)
    ·replace hL1:=A7 hL1 hc4
     refine Ac<|Ad z z<|Ab<|AL<|Bd<|Av<|Av<|Bd<|Av<|Av<|?_
     obtain rfl:=Aa hL1
     dsimp only at hF
     obtain rfl:=Aa hF
     exact A2 z z<|⟨_,z,AN hC4 _⟩
    replace hL1:=A8 hL1 hc4
    exact AF<|AU<|Ap<|Bg<|Bn z z z<|Ae z z<|Ab<|Am (l':=[(0,u1),(1,u2),(7,u2),(8,(I (List.length a2:Int))),(9,(I (w64 (x1+1))))]) ⟨z,z,z,z,z,Aj⟩<|⟨k1,A3 _,w64 (x1+1),z,hC4,hL1⟩
   replace hL1:=A8 hL1 hc1
   refine B1 (A9 (A9 (Bk ?_)))
   obtain rfl:=Aa hL1
   exact Am (l':=[]) Aj<|⟨z,z,hC1⟩
 rintro l3 _ w11 hs3 ⟨rfl,rfl,hC12⟩
 try dsimp only at hF
 refine AY hs3 ?_
 clear hs3
 refine Ac<|Ad z z<|Ab<|AL<|?_
 obtain rfl:=Aa hF
 exact A2 z z<|⟨_,z,AN hC12 _⟩
theorem c_M_Told_isTrue_c1 {w0:World} (a1:(Int × (List Int))) (u1:Value) (g1:RO [] w0 u1 a1.2) (pb1:Nat) (ax1:(List (Int × (List Int)))) (g2:ROAt [] w0 pb1 0 ax1) (rr:Bool) (hF:M.Told_isTrue_c1 a1 ax1=some rr) :
 Calls Tryz.prog 138 [(.agg #[(I a1.1),u1]),(ptr pb1 0)].toArray w0 fun e w'=>∃v,e=.returned v∧Res w0 rr v w':=by
 refine Ax Tryz.func138 z z ?_
 have hC0:=A5 w0
 unfold M.Told_isTrue_c1 at hF
 refine Ac<|Br (cs:=[(I a1.1),u1]) hC0 z z z fun b1 w1 hC1 hB1 hN1=>Ad z z<|Ab<|Ac<|AI ty31 g2 hC1.keep z z fun v1 h1=>Au [(I a1.1),u1] hC1 0 z z z Bl AP z z<|be hF fun x1 hr1 hF=>cb CP z z (c_M_HasFact ax1 v1 (h1.now hC1.keep) (a1.1,a1.2) u1 (g1.now hC1.keep) x1 hr1) fun w2 hB2=>have hC2:=hC1.grow hB2;B3 z z<|Ad z z<|Ab<|AL<|?_
 obtain rfl:=Aa hF
 exact A2 z z<|⟨_,z,AN hC2 _⟩
theorem c_Slices_IndexFunc_Limpl_Fact_impl_Fact_M_Told_isTrue_c1 {w0:World} (a1:(List (Int × (List Int)))) (u1:Value) (g1:RO [] w0 u1 a1) (pb1:Nat) (ax1:(List (Int × (List Int)))) (g2:ROAt [] w0 pb1 0 ax1) (rr:Int) (hF:Slices.IndexFunc_Limpl_Fact_impl_Fact_M_Told_isTrue_c1 a1 ax1=some rr) :
 Calls Tryz.prog 126 [u1,(.func (.func 138) #[] #[(ptr pb1 0)])].toArray w0 fun e w'=>∃v,e=.returned v∧Res w0 rr v w':=by
 refine Ax Cj z z ?_
 have hC0:=A5 w0
 unfold Slices.IndexFunc_Limpl_Fact_impl_Fact_M_Told_isTrue_c1 at hF
 refine Ac<|Ad z z<|Ab<|A6<|Ac<|Ae z z<|Bc Ai g1 z z<|Ae z z<|Ab<|be hF fun r1 hr1 hF=>Bi (fun l w=>.inl ()=r1∧l=[]∧Below w0.heap.size w0 w∧Ctx [] w0 w []) ?_ ?_
 ·refine AJ<|wS (l':=[(0,u1),(1,(.func (.func 138) #[] #[(ptr pb1 0)])),(7,(I (List.length a1:Int))),(8,(I 0))]) ⟨z,z,z,z,Aj⟩<|B2 (fun k l w=>∃x1:Int,l=[(0,u1),(1,(.func (.func 138) #[] #[(ptr pb1 0)])),(7,(I (List.length a1:Int))),(8,(I x1))]∧Below w0.heap.size w0 w∧Ctx [] w0 w []∧Slices.IndexFunc_Limpl_Fact_impl_Fact_M_Told_isTrue_c1_l1 a1 ax1 k x1=some r1) FUEL ⟨0,z,(Al _ _),hC0,hr1⟩<|?_
  clear hr1
  rintro k1 _ w1 ⟨x1,rfl,hB1,hC1,hL1⟩
  cases k1 with
  | zero=>rw [Slices.IndexFunc_Limpl_Fact_impl_Fact_M_Told_isTrue_c1_l1] at hL1; cases hL1
  | succ k1 =>
   rw [Slices.IndexFunc_Limpl_Fact_impl_Fact_M_Told_isTrue_c1_l1] at hL1
   refine Ac<|Bv z z z<|Ab<|A6<|AE z (fun hc1=>?_) (fun hc1=>?_)
   ·replace hL1:=A7 hL1 hc1
    refine AF<|Ap<|A6<|AJ<|Ac<|Ae z z<|Ad z z<|Ab<|Ac<|Ae z z<|Ae z z<|Ae z z<|be hL1 fun x2 hx1 hL1=>AH Ai ty88 g1 hx1 z z z fun b1 o1 h1=>AI ty88 h1 hC1.keep z z fun v1 h2=>?_
    obtain ⟨v2,rfl,h3⟩:=BD h2
    refine be hL1 fun x3 hr2 hL1=>BT (cap:=[(ptr pb1 0)]) Tryz.call138 z z z (c_M_Told_isTrue_c1 x2 v2 (h3.now hC1.keep) pb1 ax1 (g2.now hC1.keep) x3 hr2) fun _ w2 hv1=>?_
    obtain ⟨rfl,hB2⟩:=BU hv1
    have hC2:=hC1.grow hB2
    refine Ab<|AE z (fun hc2=>?_) (fun hc2=>?_)
    ·replace hL1:=A7 hL1 hc2
     refine Ac<|Ae z z<|Ad z z<|Ab<|AL<|Bd<|Av<|Av<|Bd<|Av<|Av<|?_
     obtain rfl:=Aa hL1
     dsimp only at hF
     obtain rfl:=Aa hF
     exact A2 z z<|⟨_,z,B4 hC2 _⟩
    replace hL1:=A8 hL1 hc2
    exact AF<|AU<|Ap<|Bg<|Bn z z z<|Ae z z<|Ab<|Am (l':=[(0,u1),(1,(.func (.func 138) #[] #[(ptr pb1 0)])),(7,(I (List.length a1:Int))),(8,(I (w64 (x1+1))))]) ⟨z,z,z,z,Aj⟩<|⟨k1,A3 _,w64 (x1+1),z,((Ao hB1).then hB2).below,hC2,hL1⟩
   replace hL1:=A8 hL1 hc1
   refine B1 (A9 (A9 (Bk ?_)))
   obtain rfl:=Aa hL1
   exact Am (l':=[]) Aj<|⟨z,z,(Ao hB1).below,hC1⟩
 rintro l2 _ w3 hs2 ⟨rfl,rfl,hB3,hC3⟩
 try dsimp only at hF
 refine AY hs2 ?_
 clear hs2
 refine Ac<|Ad z z<|Ab<|AL<|?_
 obtain rfl:=Aa hF
 exact A2 z z<|⟨_,z,B4 hC3 _⟩
theorem c_Slices_ContainsFunc_Limpl_Fact_impl_Fact_M_Told_isTrue_c1 {w0:World} (a1:(List (Int × (List Int)))) (u1:Value) (g1:RO [] w0 u1 a1) (pb1:Nat) (ax1:(List (Int × (List Int)))) (g2:ROAt [] w0 pb1 0 ax1) (rr:Bool) (hF:Slices.ContainsFunc_Limpl_Fact_impl_Fact_M_Told_isTrue_c1 a1 ax1=some rr) :
 Calls Tryz.prog 93 [u1,(.func (.func 138) #[] #[(ptr pb1 0)])].toArray w0 fun e w'=>∃v,e=.returned v∧Res w0 rr v w':=by
 refine Ax CW z z ?_
 have hC0:=A5 w0
 unfold Slices.ContainsFunc_Limpl_Fact_impl_Fact_M_Told_isTrue_c1 at hF
 refine Ac<|Ad z z<|Ab<|Ac<|Ae z z<|Ae z z<|be hF fun x1 hr1 hF=>ci Ck z z (c_Slices_IndexFunc_Limpl_Fact_impl_Fact_M_Told_isTrue_c1 a1 u1 (g1.now hC0.keep) pb1 ax1 (g2.now hC0.keep) x1 hr1) fun w1 hB1=>have hC1:=hC0.grow hB1;Cf z z z<|Ad z z<|Ab<|AL<|?_
 obtain rfl:=Aa hF
 exact A2 z z<|⟨_,z,AN hC1 _⟩
theorem c_M_Told_isTrue {w0:World} (a1:((Int × (List Int)) × (List (Int × (List Int))))) (u1:Value) (g1:RO [] w0 u1 a1.1.2) (u2:Value) (g2:RO [] w0 u2 a1.2) (a2:(List (Int × (List Int) × Int × Int × Int))) (u3:Value) (g3:RO [] w0 u3 a2) (a3:(List (Int × (List Int)))) (u4:Value) (g4:RO [] w0 u4 a3) (rr:Bool) (hF:M.Told_isTrue a1 a2 a3=some rr) :
 Calls Tryz.prog 77 [(.agg #[(I a1.1.1),u1,u2]),u3,u4].toArray w0 fun e w'=>∃v,e=.returned v∧Res w0 rr v w':=by
 refine Ax Tryz.func77 z z ?_
 have hC0:=A5 w0
 unfold M.Told_isTrue at hF
 refine Ac<|Br (cs:=[(I a1.1.1),u1,u2]) hC0 z z z fun b1 w1 hC1 hB1 hN1=>Ad z z<|Ab<|Ac<|Ae z z<|Ae z z<|fd AK AV z z z z<|Au [(I a1.1.1),u1] hC1 0 z z z Bu AV z z<|be hF fun x1 hr1 hF=>AG Tryz.call97 z z (c_M_matches a2 u3 (g3.now hC1.keep) a3 u4 (g4.now hC1.keep) (a1.1.1,a1.1.2) u1 (g1.now hC1.keep) x1 hr1)<|?_
 rintro v1 w2 ⟨hB2,F1,hv1,hn1,hb1⟩
 have hC2:=hC1.push hB2 (A:=Af v1 x1) hv1 hn1 hb1
 refine Bw hC2 zero31 z z fun b2 w3 hC3 hB3 hN2=>B9 (cs':=[v1]) hC3 0 z z (B0 (hC3.ro 1 z)) z Bp z z fun w4 hC4 hKp1=>?_
 try dsimp only [List.set] at hC4
 have hk1:=AO (((Ao hB1).then hB2).then hB3) (AS ((Ao hB1).then hB2).size hN2) hKp1
 have hk2:=AO ((Ao hB2).then hB3) (AS (Ao hB2).size hN2) hKp1
 have hk3:=AO (Ao hB3) hN2 hKp1
 refine Ab<|Ac<|Aq hC4 0 z z BA z z<|Bc Ai (hC4.ro 1 z) z z<|Ad z z<|Ab<|A6<|Ac<|Ae z z<|fd AK AV z z z z<|fd AQ Ay z z z z<|Aq hC4 2 z z AR z z<|be hF fun x2 hx1 hF=>AH Be ty93 g3 hx1 z z z fun b3 o1 h1=>fd AB Ay z z z z<|AI ty3 h1.snd.snd.fst hC4.keep z z fun v2 h2=>?_
 obtain rfl:=B8 h2
 refine Ad z z<|Ab<|Ac<|Ae z z<|Ca z z z<|Ab<|be hF fun r1 hr2 hF=>Bi (fun l w=>∃x3:Int,x3=r1∧l=[(3,(ptr b1 0)),(7,(ptr b2 0)),(8,(I x3))]∧Below w4.heap.size w4 w∧Ctx [] w0 w [Ag b2 [v1],Af v1 (x1:(List (Int × (List Int)))),Ag b1 [(I a1.1.1),u1,u2]]) ?_ ?_
 ·refine AE z (fun hc1=>?_) (fun hc1=>?_)
  ·replace hr2:=A7 hr2 hc1
   refine Bg<|Ae z z<|Ae z z<|WL_min z z z<|Ad z z<|Ab<|?_
   obtain rfl:=Aa hr2
   exact Am (l':=[(3,(ptr b1 0)),(7,(ptr b2 0)),(8,(I (if x2.2.2.1 < (List.length x1:Int) then x2.2.2.1 else (List.length x1:Int))))]) ⟨z,z,z,Aj⟩<|⟨if x2.2.2.1 < (List.length x1:Int) then x2.2.2.1 else (List.length x1:Int),z,z,(Al _ _),hC4⟩
  replace hr2:=A8 hr2 hc1
  refine AF ?_
  obtain rfl:=Aa hr2
  exact Am (l':=[(3,(ptr b1 0)),(7,(ptr b2 0)),(8,(I (List.length x1:Int)))]) ⟨z,z,z,Aj⟩<|⟨(List.length x1:Int),z,z,(Al _ _),hC4⟩
 rintro l1 _ w5 hs1 ⟨x3,rfl,rfl,hB4,hC5⟩
 try dsimp only at hF
 refine AY hs1 ?_
 clear hs1
 refine be hF fun r2 hr3 hF=>BI (fun l w=>∃x4:Bool,x4=r2∧l=[(6,(.bool x4))]∧Below w5.heap.size w5 w∧Ctx [] w0 w []) ?_ ?_
 ·refine Bg<|fd AK Bp z z z z<|Aq hC5 2 z z BA z z<|Bc Ai g2 z z<|Ae z z<|BM z z z<|Ae z z<|Bz (fun hc2=>?_) (fun hc2=>?_)
  ·replace hr3:=A7 hr3 hc2
   refine Ah z z<|fd AK Bp z z z z<|Ah z z<|Aq hC5 2 z z BA z z<|Ah z z<|BP z z<|be hr3 fun x5 hr4 hr3=>Ah z z<|cb CX z z (c_Slices_ContainsFunc_Limpl_Fact_impl_Fact_M_Told_isTrue_c1 a1.2 u2 (g2.now hC5.keep) b2 x1 (hC5.boxAt 0 z (repw_slice (hC5.ro 1 z))) x5 hr4) fun w7 hB6=>have hC7:=hC5.grow hB6;Ah z z<|B3 z z<|AW z z z<|Ad z z<|Ab<|?_
   obtain rfl:=Aa hr3
   have hC8:=hC7.h0
   exact Am (l':=[(6,(.bool (!x5)))]) ⟨z,Aj⟩<|⟨(!x5),z,z,(Ao hB6).below,hC8⟩
  replace hr3:=A8 hr3 hc2
  refine gs z z z z<|gs z z z z<|gs z z z z<|gs z z z z<|gs z z z z<|AZ z z z<|Ad z z<|Ab<|?_
  obtain rfl:=Aa hr3
  have hC9:=hC5.h0
  exact Am (l':=[(6,(.bool false))]) ⟨z,Aj⟩<|⟨false,z,z,(Al _ _),hC9⟩
 rintro _ w6 ⟨x4,rfl,rfl,hB5,hC6⟩
 try dsimp only at hF
 refine AL ?_
 obtain rfl:=Aa hF
 exact A2 z z<|⟨_,z,AN hC6 _⟩
theorem c_M_Explains_c1 {w0:World} (a1:((Int × (List Int)) × (List (Int × (List Int))))) (u1:Value) (g1:RO [] w0 u1 a1.1.2) (u2:Value) (g2:RO [] w0 u2 a1.2) (pb1:Nat) (ax1:(List Int)) (g3:ROAt [] w0 pb1 0 ax1) (pb2:Nat) (ax2:(List (Int × (List Int) × Int × Int × Int))) (g4:ROAt [] w0 pb2 0 ax2) (pb3:Nat) (ax3:(List (Int × (List Int)))) (g5:ROAt [] w0 pb3 0 ax3) (rr:Bool) (hF:M.Explains_c1 a1 ax1 ax2 ax3=some rr) :
 Calls Tryz.prog 76 [(.agg #[(I a1.1.1),u1,u2]),(ptr pb1 0),(ptr pb2 0),(ptr pb3 0)].toArray w0 fun e w'=>∃v,e=.returned v∧Res w0 rr v w':=by
 refine Ax Tryz.func76 z z ?_
 have hC0:=A5 w0
 unfold M.Explains_c1 at hF
 refine Ac<|Br (cs:=[(I a1.1.1),u1,u2]) hC0 z z z fun b1 w1 hC1 hB1 hN1=>Ad z z<|Ab<|be hF fun r1 hr1 hF=>BI (fun l w=>∃x1:Bool,x1=r1∧l=[(5,(.bool x1))]∧Below w1.heap.size w1 w∧Ctx [] w0 w []) ?_ ?_
 ·refine Bg<|AI ty24 g3 hC1.keep z z fun v1 h1=>AI ty25 g4 hC1.keep z z fun v2 h2=>Au [(I a1.1.1),u1,u2] hC1 0 z z z Bm AT z z<|be hr1 fun x2 hr2 hr1=>cb C7 z z (c_M_FitsSelf ax1 v1 (h1.now hC1.keep) ax2 v2 (h2.now hC1.keep) ((a1.1.1,a1.1.2),a1.2) u1 (g1.now hC1.keep) u2 (g2.now hC1.keep) x2 hr2) fun w3 hB3=>have hC3:=hC1.grow hB3;B3 z z<|Ae z z<|Bz (fun hc1=>?_) (fun hc1=>?_)
  ·replace hr1:=A7 hr1 hc1
   refine gs z z z z<|gs z z z z<|gs z z z z<|gs z z z z<|gs z z z z<|AW z z z<|Ad z z<|Ab<|?_
   obtain rfl:=Aa hr1
   have hC4:=hC3.h0
   exact Am (l':=[(5,(.bool true))]) ⟨z,Aj⟩<|⟨true,z,z,(Ao hB3).below,hC4⟩
  replace hr1:=A8 hr1 hc1
  refine Ah z z<|Au [(I a1.1.1),u1,u2] hC3 0 z z z Bm AT z z<|Ah z z<|AI ty25 g4 hC3.keep z z fun v3 h3=>Ah z z<|AI ty31 g5 hC3.keep z z fun v4 h4=>be hr1 fun x3 hr3 hr1=>Ah z z<|cb Tryz.call77 z z (c_M_Told_isTrue ((a1.1.1,a1.1.2),a1.2) u1 (g1.now hC3.keep) u2 (g2.now hC3.keep) ax2 v3 (h3.now hC3.keep) ax3 v4 (h4.now hC3.keep) x3 hr3) fun w4 hB4=>have hC5:=hC3.grow hB4;Ah z z<|B3 z z<|AZ z z z<|Ad z z<|Ab<|?_
  obtain rfl:=Aa hr1
  have hC6:=hC5.h0
  exact Am (l':=[(5,(.bool (!x3)))]) ⟨z,Aj⟩<|⟨(!x3),z,z,((Ao hB3).then hB4).below,hC6⟩
 rintro _ w2 ⟨x1,rfl,rfl,hB2,hC2⟩
 try dsimp only at hF
 refine AL ?_
 obtain rfl:=Aa hF
 exact A2 z z<|⟨_,z,AN hC2 _⟩
theorem c_Slices_IndexFunc_Limpl_Told_impl_Told_M_Explains_c1 {w0:World} (a1:(List ((Int × (List Int)) × (List (Int × (List Int)))))) (u1:Value) (g1:RO [] w0 u1 a1) (pb1:Nat) (ax1:(List Int)) (g2:ROAt [] w0 pb1 0 ax1) (pb2:Nat) (ax2:(List (Int × (List Int) × Int × Int × Int))) (g3:ROAt [] w0 pb2 0 ax2) (pb3:Nat) (ax3:(List (Int × (List Int)))) (g4:ROAt [] w0 pb3 0 ax3) (rr:Int) (hF:Slices.IndexFunc_Limpl_Told_impl_Told_M_Explains_c1 a1 ax1 ax2 ax3=some rr) :
 Calls Tryz.prog 66 [u1,(.func (.func 76) #[] #[(ptr pb1 0),(ptr pb2 0),(ptr pb3 0)])].toArray w0 fun e w'=>∃v,e=.returned v∧Res w0 rr v w':=by
 refine Ax Tryz.func66 z z ?_
 have hC0:=A5 w0
 unfold Slices.IndexFunc_Limpl_Told_impl_Told_M_Explains_c1 at hF
 refine Ac<|Ad z z<|Ab<|A6<|Ac<|Ae z z<|Bc A0 g1 z z<|Ae z z<|Ab<|be hF fun r1 hr1 hF=>Bi (fun l w=>.inl ()=r1∧l=[]∧Below w0.heap.size w0 w∧Ctx [] w0 w []) ?_ ?_
 ·refine AJ<|wS (l':=[(0,u1),(1,(.func (.func 76) #[] #[(ptr pb1 0),(ptr pb2 0),(ptr pb3 0)])),(7,(I (List.length a1:Int))),(8,(I 0))]) ⟨z,z,z,z,Aj⟩<|B2 (fun k l w=>∃x1:Int,l=[(0,u1),(1,(.func (.func 76) #[] #[(ptr pb1 0),(ptr pb2 0),(ptr pb3 0)])),(7,(I (List.length a1:Int))),(8,(I x1))]∧Below w0.heap.size w0 w∧Ctx [] w0 w []∧Slices.IndexFunc_Limpl_Told_impl_Told_M_Explains_c1_l1 a1 ax1 ax2 ax3 k x1=some r1) FUEL ⟨0,z,(Al _ _),hC0,hr1⟩<|?_
  clear hr1
  rintro k1 _ w1 ⟨x1,rfl,hB1,hC1,hL1⟩
  cases k1 with
  | zero=>rw [Slices.IndexFunc_Limpl_Told_impl_Told_M_Explains_c1_l1] at hL1; cases hL1
  | succ k1 =>
   rw [Slices.IndexFunc_Limpl_Told_impl_Told_M_Explains_c1_l1] at hL1
   refine Ac<|Bv z z z<|Ab<|A6<|AE z (fun hc1=>?_) (fun hc1=>?_)
   ·replace hL1:=A7 hL1 hc1
    refine AF<|Ap<|A6<|AJ<|Ac<|Ae z z<|Ad z z<|Ab<|Ac<|Ae z z<|Ae z z<|Ae z z<|be hL1 fun x2 hx1 hL1=>AH A0 ty46 g1 hx1 z z z fun b1 o1 h1=>AI ty46 h1 hC1.keep z z fun v1 h2=>?_
    obtain ⟨v2,v3,rfl,h3,h4⟩:=Cr h2
    refine be hL1 fun x3 hr2 hL1=>BT (cap:=[(ptr pb1 0),(ptr pb2 0),(ptr pb3 0)]) Tryz.call76 z z z (c_M_Explains_c1 x2 v2 (h3.now hC1.keep) v3 (h4.now hC1.keep) pb1 ax1 (g2.now hC1.keep) pb2 ax2 (g3.now hC1.keep) pb3 ax3 (g4.now hC1.keep) x3 hr2) fun _ w2 hv1=>?_
    obtain ⟨rfl,hB2⟩:=BU hv1
    have hC2:=hC1.grow hB2
    refine Ab<|AE z (fun hc2=>?_) (fun hc2=>?_)
    ·replace hL1:=A7 hL1 hc2
     refine Ac<|Ae z z<|Ad z z<|Ab<|AL<|Bd<|Av<|Av<|Bd<|Av<|Av<|?_
     obtain rfl:=Aa hL1
     dsimp only at hF
     obtain rfl:=Aa hF
     exact A2 z z<|⟨_,z,B4 hC2 _⟩
    replace hL1:=A8 hL1 hc2
    exact AF<|AU<|Ap<|Bg<|Bn z z z<|Ae z z<|Ab<|Am (l':=[(0,u1),(1,(.func (.func 76) #[] #[(ptr pb1 0),(ptr pb2 0),(ptr pb3 0)])),(7,(I (List.length a1:Int))),(8,(I (w64 (x1+1))))]) ⟨z,z,z,z,Aj⟩<|⟨k1,A3 _,w64 (x1+1),z,((Ao hB1).then hB2).below,hC2,hL1⟩
   replace hL1:=A8 hL1 hc1
   refine B1 (A9 (A9 (Bk ?_)))
   obtain rfl:=Aa hL1
   exact Am (l':=[]) Aj<|⟨z,z,(Ao hB1).below,hC1⟩
 rintro l2 _ w3 hs2 ⟨rfl,rfl,hB3,hC3⟩
 try dsimp only at hF
 refine AY hs2 ?_
 clear hs2
 refine Ac<|Ad z z<|Ab<|AL<|?_
 obtain rfl:=Aa hF
 exact A2 z z<|⟨_,z,B4 hC3 _⟩
theorem c_Slices_ContainsFunc_Limpl_Told_impl_Told_M_Explains_c1 {w0:World} (a1:(List ((Int × (List Int)) × (List (Int × (List Int)))))) (u1:Value) (g1:RO [] w0 u1 a1) (pb1:Nat) (ax1:(List Int)) (g2:ROAt [] w0 pb1 0 ax1) (pb2:Nat) (ax2:(List (Int × (List Int) × Int × Int × Int))) (g3:ROAt [] w0 pb2 0 ax2) (pb3:Nat) (ax3:(List (Int × (List Int)))) (g4:ROAt [] w0 pb3 0 ax3) (rr:Bool) (hF:Slices.ContainsFunc_Limpl_Told_impl_Told_M_Explains_c1 a1 ax1 ax2 ax3=some rr) :
 Calls Tryz.prog 75 [u1,(.func (.func 76) #[] #[(ptr pb1 0),(ptr pb2 0),(ptr pb3 0)])].toArray w0 fun e w'=>∃v,e=.returned v∧Res w0 rr v w':=by
 refine Ax Tryz.func75 z z ?_
 have hC0:=A5 w0
 unfold Slices.ContainsFunc_Limpl_Told_impl_Told_M_Explains_c1 at hF
 refine Ac<|Ad z z<|Ab<|Ac<|Ae z z<|Ae z z<|be hF fun x1 hr1 hF=>ci Tryz.call66 z z (c_Slices_IndexFunc_Limpl_Told_impl_Told_M_Explains_c1 a1 u1 (g1.now hC0.keep) pb1 ax1 (g2.now hC0.keep) pb2 ax2 (g3.now hC0.keep) pb3 ax3 (g4.now hC0.keep) x1 hr1) fun w1 hB1=>have hC1:=hC0.grow hB1;Cf z z z<|Ad z z<|Ab<|AL<|?_
 obtain rfl:=Aa hF
 exact A2 z z<|⟨_,z,AN hC1 _⟩
theorem c_M_Explains {w0:World} (a1:(List Int)) (u1:Value) (g1:RO [] w0 u1 a1) (a2:(List (Int × (List Int) × Int × Int × Int))) (u2:Value) (g2:RO [] w0 u2 a2) (a3:(List (Int × (List Int)))) (u3:Value) (g3:RO [] w0 u3 a3) (a4:(List ((Int × (List Int)) × (List (Int × (List Int)))))) (u4:Value) (g4:RO [] w0 u4 a4) (rr:Bool) (hF:M.Explains a1 a2 a3 a4=some rr) :
 Calls Tryz.prog 19 [u1,u2,u3,u4].toArray w0 fun e w'=>∃v,e=.returned v∧Res w0 rr v w':=by
 refine Ax Tryz.func19 z z ?_
 have hC0:=A5 w0
 unfold M.Explains at hF
 refine Ac<|Br (cs:=[u1]) hC0 (B7 g1) z z fun b1 w1 hC1 hB1 hN1=>Br (cs:=[u2]) hC1 (B7 g2) z z fun b2 w2 hC2 hB2 hN2=>Br (cs:=[u3]) hC2 (B7 g3) z z fun b3 w3 hC3 hB3 hN3=>Ad z z<|Ab<|be hF fun r1 hr1 hF=>BI (fun l w=>∃x1:Bool,x1=r1∧l=[(8,(.bool x1))]∧Below w3.heap.size w3 w∧Ctx [] w0 w []) ?_ ?_
 ·refine Bg<|Aq hC3 2 z z AM z z<|Aq hC3 1 z z Cy z z<|be hr1 fun x2 hr2 hr1=>cb Tryz.call71 z z (c_M_AreMethods a1 u1 (g1.now hC3.keep) a2 u2 (g2.now hC3.keep) x2 hr2) fun w5 hB5=>have hC5:=hC3.grow hB5;Ae z z<|Bz (fun hc1=>?_) (fun hc1=>?_)
  ·replace hr1:=A7 hr1 hc1
   refine Ah z z<|Aq hC5 2 z z AM z z<|Ah z z<|Aq hC5 0 z z BA z z<|be hr1 fun x3 hr3 hr1=>Ah z z<|cb Tryz.call74 z z (c_M_areAscending a1 u1 (g1.now hC5.keep) a3 u3 (g3.now hC5.keep) x3 hr3) fun w6 hB6=>have hC6:=hC5.grow hB6;AW z z z<|Ae z z<|Bz (fun hc2=>?_) (fun hc2=>?_)
   ·replace hr1:=A7 hr1 hc2
    refine Ah z z<|Ae z z<|Ah z z<|BP z z<|be hr1 fun x4 hr4 hr1=>Ah z z<|cb Tryz.call75 z z (c_Slices_ContainsFunc_Limpl_Told_impl_Told_M_Explains_c1 a4 u4 (g4.now hC6.keep) b1 a1 (hC6.boxAt 2 z (repw_slice (g1.now hC6.keep))) b2 a2 (hC6.boxAt 1 z (repw_slice (g2.now hC6.keep))) b3 a3 (hC6.boxAt 0 z (repw_slice (g3.now hC6.keep))) x4 hr4) fun w7 hB7=>have hC7:=hC6.grow hB7;Ah z z<|B3 z z<|AW z z z<|Ad z z<|Ab<|?_
    obtain rfl:=Aa hr1
    have hC8:=hC7.h0
    exact Am (l':=[(8,(.bool (!x4)))]) ⟨z,Aj⟩<|⟨(!x4),z,z,(((Ao hB5).then hB6).then hB7).below,hC8⟩
   replace hr1:=A8 hr1 hc2
   refine gs z z z z<|gs z z z z<|gs z z z z<|gs z z z z<|AZ z z z<|Ad z z<|Ab<|?_
   obtain rfl:=Aa hr1
   have hC9:=hC6.h0
   exact Am (l':=[(8,(.bool false))]) ⟨z,Aj⟩<|⟨false,z,z,((Ao hB5).then hB6).below,hC9⟩
  replace hr1:=A8 hr1 hc1
  refine gs z z z z<|gs z z z z<|gs z z z z<|AZ z z z<|Ae z z<|gs z z z z<|gs z z z z<|gs z z z z<|gs z z z z<|AZ z z z<|Ad z z<|Ab<|?_
  obtain rfl:=Aa hr1
  have hC10:=hC5.h0
  exact Am (l':=[(8,(.bool false))]) ⟨z,Aj⟩<|⟨false,z,z,(Ao hB5).below,hC10⟩
 rintro _ w4 ⟨x1,rfl,rfl,hB4,hC4⟩
 try dsimp only at hF
 refine AL ?_
 obtain rfl:=Aa hF
 exact A2 z z<|⟨_,z,AN hC4 _⟩
theorem c_S_DrawExplains {w0:World} (a1:(List UInt8)) (u1:Value) (g1:RO [] w0 u1 a1) (rr:((List Int) × (List (Int × (List Int) × Int × Int × Int)) × (List (Int × (List Int))) × (List ((Int × (List Int)) × (List (Int × (List Int))))))) (hF:S.DrawExplains a1=some rr) :
 Calls Tryz.prog 20 [u1].toArray w0 fun e w'=>∃v,e=.returned v∧∃q0:Value,∃q1:Value,∃q2:Value,∃q3:Value,v=(.tuple #[q0,q1,q2,q3])∧Ctx [] w0 w' [Af q0 (rr.1:(List Int)),Af q1 (rr.2.1:(List (Int × (List Int) × Int × Int × Int))),Af q2 (rr.2.2.1:(List (Int × (List Int)))),Af q3 (rr.2.2.2:(List ((Int × (List Int)) × (List (Int × (List Int))))))]:=by
 refine Ax Tryz.func20 z z ?_
 have hC0:=A5 w0
 unfold S.DrawExplains at hF
 refine Ac<|Ad z z<|Ad z z<|Ad z z<|Ad z z<|Ab<|Ac<|Ae z z<|be hF fun x1 hr1 hF=>AG C4 z z (c_S_l1New a1 u1 (g1.now hC0.keep) x1 hr1)<|?_
 rintro _ w1 ⟨b1,rfl,hq1⟩
 have hC1:Ctx [] w0 w1 [Ag b1 [u1,(I x1.2.1),(I x1.2.2)]]:=hC0.push2 hq1
 refine Ad z z<|Ab<|Ac<|Ae z z<|be hF fun x2 hr2 hF=>?_
 obtain ⟨Fs2,hH2,hn2,hF2,hO2,hb2⟩:=AX (As:=[]) [Ag b1 [u1,(I x1.2.1),(I x1.2.2)]] hC1
 refine AG C5 z z (c_S_l28List b1 (a1,x1.2.1,x1.2.2) u1 (Bf g1 hC1.keep hF2) hH2 hn2 x2 hr2) ?_
 rintro _ w2 ⟨v1,v2,v3,v4,rfl,hq2⟩
 have hC2:Ctx [] w0 w2 [Af v1 (x2.1:(List Int)),Af v2 (x2.2.1:(List (Int × (List Int) × Int × Int × Int))),Af v3 (x2.2.2.1:(List (Int × (List Int)))),Af v4 (x2.2.2.2.1:(List ((Int × (List Int)) × (List (Int × (List Int)))))),Ag b1 [u1,(I x2.2.2.2.2.2.1),(I x2.2.2.2.2.2.2)]]:=hb2 _ _ hq2
 refine Ae z z<|Bh z z z<|Bh z z z<|Bh z z z<|Bh z z z<|Ad z z<|Ad z z<|Ad z z<|Ad z z<|Ab<|A6<|Ac<|Ae z z<|be hF fun x3 hr3 hF=>have hC3:=hC2.f4;?_
 obtain ⟨Fs3,hH3,hn3,hF3,hO3,hb3⟩:=AX (As:=[Af v1 (x2.1:(List Int)),Af v2 (x2.2.1:(List (Int × (List Int) × Int × Int × Int))),Af v3 (x2.2.2.1:(List (Int × (List Int)))),Af v4 (x2.2.2.2.1:(List ((Int × (List Int)) × (List (Int × (List Int))))))]) [Ag b1 [u1,(I x2.2.2.2.2.2.1),(I x2.2.2.2.2.2.2)]] hC3
 refine AG Co z z (c_S_l1Once b1 (a1,x2.2.2.2.2.2.1,x2.2.2.2.2.2.2) u1 (Bf g1 hC3.keep hF3) 3 hH3 hn3 x3 hr3) ?_
 rintro _ w3 ⟨rfl,hq3⟩
 have hC4:Ctx [] w0 w3 [Ag b1 [u1,(I x3.2.2.1),(I x3.2.2.2)],Af v1 (x2.1:(List Int)),Af v2 (x2.2.1:(List (Int × (List Int) × Int × Int × Int))),Af v3 (x2.2.2.1:(List (Int × (List Int)))),Af v4 (x2.2.2.2.1:(List ((Int × (List Int)) × (List (Int × (List Int))))))]:=hb3 _ _ hq3
 refine Ab<|be hF fun r1 hr4 hF=>Bi (fun l w=>∃v5:Value,∃x4:(List (Int × (List Int))),x4=r1∧l=[(7,v1),(8,v2),(9,v5),(10,v4)]∧Below w3.heap.size w3 w∧Ctx [] w0 w [Af v1 (x2.1:(List Int)),Af v2 (x2.2.1:(List (Int × (List Int) × Int × Int × Int))),Af v5 (x4:(List (Int × (List Int)))),Af v4 (x2.2.2.2.1:(List ((Int × (List Int)) × (List (Int × (List Int))))))]) ?_ ?_
 ·refine AE z (fun hc1=>?_) (fun hc1=>?_)
  ·replace hr4:=A7 hr4 hc1
   refine Bg<|Ae z z<|be hr4 fun x5 hr5 hr4=>AG C9 z z (c_S_UnionOf x2.2.2.2.1 v4 ((hC4.ro 4 z).now (A1 _ _)) x5 hr5)<|?_
   rintro v6 w5 ⟨hB2,F1,hv1,hn4,hb4⟩
   have hC6:=hC4.push hB2 (A:=Af v6 x5) hv1 hn4 hb4
   refine Ad z z<|Ab<|?_
   obtain rfl:=Aa hr4
   have hC7:=hC6.f5
   have hC8:=hC7.f1
   have hC9:=hC8.f4
   have hC10:=hC9.f4
   have hC11:=hC10.h4
   exact Am (l':=[(7,v1),(8,v2),(9,v6),(10,v4)]) ⟨z,z,z,z,Aj⟩<|⟨v6,x5,z,z,(Ao hB2).below,hC11⟩
  replace hr4:=A8 hr4 hc1
  refine AF ?_
  obtain rfl:=Aa hr4
  have hC12:=hC4.f4
  have hC13:=hC12.f4
  have hC14:=hC13.f4
  have hC15:=hC14.f4
  have hC16:=hC15.h4
  exact Am (l':=[(7,v1),(8,v2),(9,v3),(10,v4)]) ⟨z,z,z,z,Aj⟩<|⟨v3,x2.2.2.1,z,z,(Al _ _),hC16⟩
 rintro l1 _ w4 hs1 ⟨v5,x4,rfl,rfl,hB1,hC5⟩
 try dsimp only at hF
 refine AY hs1 ?_
 clear hs1
 refine Ac<|Ae z z<|Ae z z<|Ae z z<|Ae z z<|Ad z z<|Ad z z<|Ad z z<|Ad z z<|Ab<|AL<|?_
 obtain rfl:=Aa hF
 exact fn_ret4 z z z z z<|have hC17:=hC5.f3;have hC18:=hC17.f3;have hC19:=hC18.f3;have hC20:=hC19.f3;⟨_,z,_,_,_,_,z,hC20⟩
theorem c_S_l15Facts {w0:World} (a1:(List Int)) (u1:Value) (g1:RO [] w0 u1 a1) (a2:(List (Int × (List Int)))) (u2:Value) (g2:RO [] w0 u2 a2) (rr:Bool) (hF:S.l15Facts a1 a2=some rr) :
 Calls Tryz.prog 79 [u1,u2].toArray w0 fun e w'=>∃v,e=.returned v∧Res w0 rr v w':=by
 refine Ax Tryz.func79 z z ?_
 have hC0:=A5 w0
 unfold S.l15Facts at hF
 refine Ac<|Ad z z<|Ab<|A6<|Ac<|Ad z z<|Ab<|be hF fun r1 hr1 hF=>Bi (fun l w=>.inl ()=r1∧l=[(0,u1)]∧Below w0.heap.size w0 w∧Ctx [] w0 w []) ?_ ?_
 ·refine AJ<|wS (l':=[(0,u1),(1,u2),(5,(I 0))]) ⟨z,z,z,Aj⟩<|B2 (fun k l w=>∃x1:Int,l=[(0,u1),(1,u2),(5,(I x1))]∧Below w0.heap.size w0 w∧Ctx [] w0 w []∧S.l15Facts_l1 a2 a1 k x1=some r1) FUEL ⟨0,z,(Al _ _),hC0,hr1⟩<|?_
  clear hr1
  rintro k1 _ w1 ⟨x1,rfl,hB1,hC1,hL1⟩
  cases k1 with
  | zero=>rw [S.l15Facts_l1] at hL1; cases hL1
  | succ k1 =>
   rw [S.l15Facts_l1] at hL1
   refine A6<|Ac<|Ae z z<|Ae z z<|Bc Ai g2 z z<|Bv z z z<|Ab<|AE z (fun hc1=>?_) (fun hc1=>?_)
   ·replace hL1:=A7 hL1 hc1
    refine AF<|Ap<|A6<|AJ<|be hL1 fun r2 hr2 hL1=>BI (fun l w=>∃x2:Bool,x2=r2∧l=[(0,u1),(1,u2),(5,(I x1)),(35,(.bool x2))]∧Below w1.heap.size w1 w∧Ctx [] w0 w []) ?_ ?_
    ·refine W_drawn 24 z hmix fun w3 hB3=>have hC3:=hC1.grow hB3;tm 0 z z z<|tm 1 z z z<|tm 2 z z z<|be hr2 fun x3 hx1 hr2=>tk 3 z z (BG Ai ty88 g2 hx1 z z)<|AH Ai ty88 g2 hx1 z z z fun b1 o1 h1=>Ab<|oe 4 z<|AI ty88 h1 hC3.keep z z fun v1 h2=>?_
     obtain ⟨v2,rfl,h3⟩:=BD h2
     refine Ab<|be hr2 fun x4 hr3 hr2=>oe 5 z<|cb Tryz.call139 z z (c_S_IsFact a1 u1 (g1.now hC3.keep) x3 v2 (h3.now hC3.keep) x4 hr3) fun w4 hB4=>have hC4:=hC3.grow hB4;Ab<|tk 6 z z (Cl z)<|B3 z z<|Ab<|tm 7 z z z<|BC (fun hc2=>?_) (fun hc2=>?_)
     ·replace hr2:=A7 hr2 hc2
      refine sk 8 z z z z z<|sk 9 z z z z z<|sk 10 z z z z z<|sk 11 z z z z z<|sk 12 z z z z z<|sk 13 z z z z z<|sk 14 z z z z z<|sk 15 z z z z z<|sk 16 z z z z z<|sk 17 z z z z z<|sk 18 z z z z z<|sk 19 z z z z z<|sk 20 z z z z z<|sk 21 z z z z z<|sk 22 z z z z z<|tp 23 z z z z<|dn<|?_
      obtain rfl:=Aa hr2
      exact Am (l':=[(0,u1),(1,u2),(5,(I x1)),(35,(.bool true))]) ⟨z,z,z,z,Aj⟩<|⟨true,z,z,((Ao hB3).then hB4).below,hC4⟩
     replace hr2:=A8 hr2 hc2
     refine tn 8 z z z z z<|tg 9 z z z z (Dd z z)<|Ah z z<|Ca z z z<|Ab<|tn 10 z z z z z<|BC (fun hc3=>?_) (fun hc3=>?_)
     ·replace hr2:=A7 hr2 hc3
      refine tn 11 z z z z z<|tn 12 z z z z z<|tg 13 z z z z (Ct z z)<|Ah z z<|BR z z z<|Ab<|be hr2 fun x5 hx2 hr2=>tg 14 z z z z (BG Ai ty88 g2 hx2 z z)<|Ah z z<|AH Ai ty88 g2 hx2 z z z fun b2 o2 h4=>Ab<|tn 16 z z z z z<|tn 17 z z z z z<|be hr2 fun x6 hx3 hr2=>tg 18 z z z z (BG Ai ty88 g2 hx3 z z)<|Ah z z<|AH Ai ty88 g2 hx3 z z z fun b3 o3 h5=>Ab<|wAS (l':=[(0,u1),(1,u2),(5,(I x1)),(6,(I x1)),(7,u2),(8,(I (List.length a2:Int))),(9,(.bool (decide (x1 < (List.length a2:Int))))),(12,u1),(13,u2),(14,(I x1)),(15,(ptr b1 o1)),(16,(.agg #[(I x3.1),v2])),(17,(.bool x4)),(18,(.bool (!x4))),(19,(.bool false)),(20,(I x1)),(21,(.bool (decide (0 < x1)))),(22,(.bool true)),(23,u2),(24,(I x1)),(25,(I (w64 (x1 - 1)))),(26,(ptr b2 o2)),(28,u2),(29,(I x1)),(30,(ptr b3 o3))]) ⟨z,z,z,z,z,z,z,z,z,z,z,z,z,z,z,z,z,z,z,z,z,z,z,z,z,Aj⟩<|Bq [⟨15,[],fun vs=>Ce [] w0 x5,[]⟩,⟨19,[],fun vs=>Ce [] w0 x6,[]⟩] [[],[]] 4 z (by kernel_rfl) (by kernel_rfl) z ?_ ?_
      ·refine An z ?_ ?_
       ·intro w5 hB5
        refine At<|⟨_,z,?_⟩
        exact Ah z z<|AI ty88 h4 (hC4.keep.then hB5) z z fun v5 h8=>Ab<|Aw (Al _ _) z z ⟨z,h8⟩
       refine An z ?_ ?_
       ·intro w5 hB5
        refine At<|⟨_,z,?_⟩
        exact Ah z z<|AI ty88 h5 (hC4.keep.then hB5) z z fun v8 h11=>Ab<|Aw (Al _ _) z z ⟨z,h11⟩
       exact Bj
      intro w6 hB6
      refine Ar z z z ?_
      rintro v5 _ ⟨rfl,h8⟩
      obtain ⟨v4,rfl,h7⟩:=BD h8
      refine Ar z z z ?_
      rintro v8 _ ⟨rfl,h11⟩
      obtain ⟨v7,rfl,h10⟩:=BD h11
      refine Bt fun hn1 hb1=>have hC5:=hC4.grow hB6;be hr2 fun x7 hr4 hr2=>oe 20 z<|Ah z z<|ci C3 z z (c_S_CompareFacts x5 v4 (h7.now hC5.keep) x6 v7 (h10.now hC5.keep) x7 hr4) fun w7 hB7=>have hC6:=hC5.grow hB7;Ab<|tg 21 z z z z (fl_geq z z)<|Ah z z<|Cf z z z<|Ab<|tg 22 z z z z (Cg z z)<|Ah z z<|AW z z z<|Ab<|tq 23 z z z z<|dn<|?_
      obtain rfl:=Aa hr2
      exact Am (l':=[(0,u1),(1,u2),(5,(I x1)),(35,(.bool (decide (0 ≤ x7))))]) ⟨z,z,z,z,Aj⟩<|⟨(decide (0 ≤ x7)),z,z,((((Ao hB3).then hB4).then hB6).then hB7).below,hC6⟩
     replace hr2:=A8 hr2 hc3
     refine sk 11 z z z z z<|sk 12 z z z z z<|sk 13 z z z z z<|sk 14 z z z z z<|sk 15 z z z z z<|sk 16 z z z z z<|sk 17 z z z z z<|sk 18 z z z z z<|sk 19 z z z z z<|sk 20 z z z z z<|sk 21 z z z z z<|tg 22 z z z z (Ci z z)<|Ah z z<|AZ z z z<|Ab<|tq 23 z z z z<|dn<|?_
     obtain rfl:=Aa hr2
     exact Am (l':=[(0,u1),(1,u2),(5,(I x1)),(35,(.bool false))]) ⟨z,z,z,z,Aj⟩<|⟨false,z,z,((Ao hB3).then hB4).below,hC4⟩
    rintro _ w2 ⟨x2,rfl,rfl,hB2,hC2⟩
    try dsimp only at hL1
    refine AE z (fun hc4=>?_) (fun hc4=>?_)
    ·replace hL1:=A7 hL1 hc4
     refine Ac<|Ad z z<|Ab<|AL<|Bd<|Av<|Av<|Bd<|Av<|Av<|?_
     obtain rfl:=Aa hL1
     dsimp only at hF
     obtain rfl:=Aa hF
     exact A2 z z<|⟨_,z,AN hC2 _⟩
    replace hL1:=A8 hL1 hc4
    exact AF<|AU<|Ap<|Bg<|Ae z z<|Bn z z z<|Ad z z<|Ab<|Am (l':=[(0,u1),(1,u2),(5,(I (w64 (x1+1))))]) ⟨z,z,z,Aj⟩<|⟨k1,A3 _,w64 (x1+1),z,((Ao hB1).then hB2).below,hC2,hL1⟩
   replace hL1:=A8 hL1 hc1
   refine B1 (A9 (A9 (Bk ?_)))
   obtain rfl:=Aa hL1
   exact Am (l':=[(0,u1)]) ⟨z,Aj⟩<|⟨z,z,(Ao hB1).below,hC1⟩
 rintro l3 _ w9 hs3 ⟨rfl,rfl,hB8,hC7⟩
 try dsimp only at hF
 refine AY hs3 ?_
 clear hs3
 refine Ac<|Ae z z<|be hF fun x8 hr5 hF=>cb BX z z (c_S_IsSchema a1 u1 (g1.now hC7.keep) x8 hr5) fun w10 hB9=>have hC8:=hC7.grow hB9;Ad z z<|Ab<|AL<|?_
 obtain rfl:=Aa hF
 exact A2 z z<|⟨_,z,AN hC8 _⟩
theorem c_S_Explains {w0:World} (a1:(List Int)) (u1:Value) (g1:RO [] w0 u1 a1) (a2:(List (Int × (List Int) × Int × Int × Int))) (u2:Value) (g2:RO [] w0 u2 a2) (a3:(List (Int × (List Int)))) (u3:Value) (g3:RO [] w0 u3 a3) (a4:(List ((Int × (List Int)) × (List (Int × (List Int)))))) (u4:Value) (g4:RO [] w0 u4 a4) (rr:Bool) (hF:S.Explains a1 a2 a3 a4=some rr) :
 Calls Tryz.prog 21 [u1,u2,u3,u4].toArray w0 fun e w'=>∃v,e=.returned v∧Res w0 rr v w':=by
 refine Ax Tryz.func21 z z ?_
 have hC0:=A5 w0
 unfold S.Explains at hF
 refine Ac<|Ad z z<|Ab<|A6<|be hF fun r1 hr1 hF=>BI (fun l w=>∃x1:Bool,x1=r1∧l=[(0,u1),(1,u2),(2,u3),(3,u4),(23,(.bool x1))]∧Below w0.heap.size w0 w∧Ctx [] w0 w []) ?_ ?_
 ·refine Bg<|Ae z z<|Ae z z<|be hr1 fun x2 hr2 hr1=>cb Cw z z (c_S_AreMethods a1 u1 (g1.now hC0.keep) a2 u2 (g2.now hC0.keep) x2 hr2) fun w2 hB2=>have hC2:=hC0.grow hB2;B3 z z<|Ae z z<|Bz (fun hc1=>?_) (fun hc1=>?_)
  ·replace hr1:=A7 hr1 hc1
   refine gs z z z z<|gs z z z z<|gs z z z z<|gs z z z z<|AW z z z<|Ab<|?_
   obtain rfl:=Aa hr1
   exact Am (l':=[(0,u1),(1,u2),(2,u3),(3,u4),(23,(.bool true))]) ⟨z,z,z,z,z,Aj⟩<|⟨true,z,z,(Ao hB2).below,hC2⟩
  replace hr1:=A8 hr1 hc1
  refine Ah z z<|Ae z z<|Ah z z<|Ae z z<|be hr1 fun x3 hr3 hr1=>Ah z z<|cb Tryz.call79 z z (c_S_l15Facts a1 u1 (g1.now hC2.keep) a3 u3 (g3.now hC2.keep) x3 hr3) fun w3 hB3=>have hC3:=hC2.grow hB3;Ah z z<|B3 z z<|AZ z z z<|Ab<|?_
  obtain rfl:=Aa hr1
  exact Am (l':=[(0,u1),(1,u2),(2,u3),(3,u4),(23,(.bool (!x3)))]) ⟨z,z,z,z,z,Aj⟩<|⟨(!x3),z,z,((Ao hB2).then hB3).below,hC3⟩
 rintro _ w1 ⟨x1,rfl,rfl,hB1,hC1⟩
 try dsimp only at hF
 refine AE z (fun hc2=>?_) (fun hc2=>?_)
 ·replace hF:=A7 hF hc2
  refine Ac<|Ad z z<|Ab<|AL<|Av<|?_
  obtain rfl:=Aa hF
  exact A2 z z<|⟨_,z,AN hC1 _⟩
 replace hF:=A8 hF hc2
 refine AF<|Ap<|A6<|Ac<|Ad z z<|Ab<|be hF fun r2 hr4 hF=>Bi (fun l w=>.inl ()=r2∧l=[]∧Ctx [] w0 w []) ?_ ?_
 ·refine AJ<|wS (l':=[(0,u1),(1,u2),(2,u3),(3,u4),(9,(I 0))]) ⟨z,z,z,z,z,Aj⟩<|B2 (fun k l w=>∃x4:Int,l=[(0,u1),(1,u2),(2,u3),(3,u4),(9,(I x4))]∧Ctx [] w0 w []∧S.Explains_l1 a4 a1 a2 a3 k x4=some r2) FUEL ⟨0,z,hC1,hr4⟩<|?_
  clear hr4
  rintro k1 _ w4 ⟨x4,rfl,hC4,hL1⟩
  cases k1 with
  | zero=>rw [S.Explains_l1] at hL1; cases hL1
  | succ k1 =>
   rw [S.Explains_l1] at hL1
   refine A6<|Ac<|Ae z z<|Ae z z<|Bc A0 g4 z z<|Bv z z z<|Ab<|AE z (fun hc3=>?_) (fun hc3=>?_)
   ·replace hL1:=A7 hL1 hc3
    refine AF<|Ap<|A6<|AJ<|A6<|Ac<|Ae z z<|Ae z z<|Ae z z<|Ae z z<|be hL1 fun x5 hx1 hL1=>AH A0 ty46 g4 hx1 z z z fun b1 o1 h1=>AI ty46 h1 hC4.keep z z fun v1 h2=>?_
    obtain ⟨v2,v3,rfl,h3,h4⟩:=Cr h2
    refine be hL1 fun x6 hr5 hL1=>cb C8 z z (c_S_FitsSelf a1 u1 (g1.now hC4.keep) a2 u2 (g2.now hC4.keep) x5 v2 (h3.now hC4.keep) v3 (h4.now hC4.keep) x6 hr5) fun w5 hB5=>have hC5:=hC4.grow hB5;B3 z z<|Ab<|AE z (fun hc4=>?_) (fun hc4=>?_)
    ·replace hL1:=A7 hL1 hc4
     refine Ac<|Ad z z<|Ab<|AL<|Av<|Bd<|Av<|Av<|Bd<|Av<|Av<|?_
     obtain rfl:=Aa hL1
     dsimp only at hF
     obtain rfl:=Aa hF
     exact A2 z z<|⟨_,z,AN hC5 _⟩
    replace hL1:=A8 hL1 hc4
    refine AF<|Ap<|Ac<|Ae z z<|Ae z z<|Ae z z<|be hL1 fun x7 hx2 hL1=>AH A0 ty46 g4 hx2 z z z fun b2 o2 h5=>fd AK AV z z z z<|fd AQ Ay z z z z<|AI ty3 h5.fst.fst hC5.keep z z fun v4 h6=>?_
    obtain rfl:=B8 h6
    refine be hL1 fun x8 hx3 hL1=>AH Be ty93 g2 hx3 z z z fun b3 o3 h7=>AI ty93 h7 hC5.keep z z fun v5 h8=>?_
    obtain ⟨v6,rfl,h9⟩:=CE h8
    refine Bw hC5 zero93 z z fun b4 w6 hC6 hB6 hN1=>AA (cs':=[(I x8.1),v6,(I x8.2.2.1),(I x8.2.2.2.1),(I x8.2.2.2.2)]) (new:=[(I x8.1),v6,(I x8.2.2.1),(I x8.2.2.2.1),(I x8.2.2.2.2)]) hC6 0 z z (fac z<|fac (B0 h9)<|fac z<|fac z<|fac z<|fa0) z B6 z z fun w7 hC7 hKp1=>?_
    try dsimp only [List.set] at hC7
    have hk1:=AO ((Ao hB5).then hB6) (AS (Ao hB5).size hN1) hKp1
    have hk2:=AO (Ao hB6) hN1 hKp1
    refine Ab<|A6<|W_drawn 10 z hmix fun w9 hB7=>have hC8:=hC7.grow hB7;tm 1 z z z<|tm 2 z z z<|be hL1 fun x9 hx4 hL1=>tk 3 z z (BG A0 ty46 g4 hx4 z z)<|AH A0 ty46 g4 hx4 z z z fun b5 o4 h10=>Ab<|tf 4 AK AV z z z z z<|tf 5 AQ Az z z z z z<|tm 7 z z z<|wAS (l':=[(0,u1),(1,u2),(2,u3),(3,u4),(9,(I x4)),(10,(ptr b4 0)),(24,(I x4)),(25,u4),(26,(I (List.length a4:Int))),(27,(.bool (decide (x4 < (List.length a4:Int))))),(30,u1),(31,u2),(32,u4),(33,(I x4)),(34,(ptr b1 o1)),(35,(.agg #[(I x5.1.1),v2,v3])),(36,(.bool x6)),(37,(.bool (!x6))),(38,u2),(39,u4),(40,(I x4)),(41,(ptr b2 o2)),(42,(ptr b2 (o2+0))),(43,(ptr b2 (o2+0+0))),(44,(I x7.1.1)),(45,(ptr b3 o3)),(46,(.agg #[(I x8.1),v6,(I x8.2.2.1),(I x8.2.2.2.1),(I x8.2.2.2.2)])),(48,u4),(49,(I x4)),(50,(ptr b5 o4)),(51,(ptr b5 (o4+0))),(52,(ptr b5 (o4+0+1))),(54,u3)]) ⟨z,z,z,z,z,z,z,z,z,z,z,z,z,z,z,z,z,z,z,z,z,z,z,z,z,z,z,z,z,z,z,z,z,Aj⟩<|Bq [⟨0,[],fun vs=>Ba (.agg #[(I x8.1),v6,(I x8.2.2.1),(I x8.2.2.2.1),(I x8.2.2.2.2)]),[]⟩,⟨6,[],fun vs=>Ce [] w0 x9.1.2,[]⟩] [[],[]] 2 z (by kernel_rfl) (by kernel_rfl) z ?_ ?_
    ·refine An z ?_ ?_
     ·intro w10 hB8
      refine At<|⟨_,z,?_⟩
      exact Au [(I x8.1),v6,(I x8.2.2.1),(I x8.2.2.2.1),(I x8.2.2.2.2)] (hC8.grow hB8) 0 z z z BQ B6 z z<|Ab<|Aw (Al _ _) z z ⟨z,z⟩
     refine An z ?_ ?_
     ·intro w10 hB8
      refine At<|⟨_,z,?_⟩
      exact AI ty24 h10.fst.snd (hC8.keep.then hB8) z z fun v7 h11=>Ab<|Aw (Al _ _) z z ⟨z,h11⟩
     exact Bj
    intro w11 hB9
    refine Ar z z z ?_
    rintro _ _ ⟨rfl,rfl⟩
    refine Ar z z z ?_
    rintro v7 _ ⟨rfl,h11⟩
    refine Bt fun hn1 hb1=>have hC9:=hC8.grow hB9;be hL1 fun x10 hr6 hL1=>oe 8 z<|AG Tryz.call80 z z (c_S_l5Matches (x8.1,x8.2.1,x8.2.2.1,x8.2.2.2.1,x8.2.2.2.2) v6 (h9.now hC9.keep) x9.1.2 v7 (h11.now hC9.keep) a3 u3 (g3.now hC9.keep) x10 hr6)<|?_
    rintro v8 w12 ⟨hB10,F1,hv4,hn2,hb2⟩
    have hC10:=hC9.push hB10 (A:=Af v8 x10) hv4 hn2 hb2
    refine Ab<|ta 9 z z z<|dn<|Ap<|Ac<|Ae z z<|Bc Ai (hC10.ro 0 z) z z<|Ad z z<|Ab<|A6<|Ac<|fd AB Ay z z z z<|Aq hC10 1 z z AR z z<|Ca z z z<|Ab<|be hL1 fun r3 hr7 hL1=>Bi (fun l w=>∃x11:Int,x11=r3∧l=[(0,u1),(1,u2),(2,u3),(3,u4),(9,(I x4)),(11,v8),(12,(I x11))]∧Below w12.heap.size w12 w∧Ctx [] w0 w [Af v8 (x10:(List (Int × (List Int))))]) ?_ ?_
    ·refine AE z (fun hc5=>?_) (fun hc5=>?_)
     ·replace hr7:=A7 hr7 hc5
      refine Bg<|Ae z z<|fd AB Ay z z z z<|Aq hC10 1 z z AR z z<|WL_min z z z<|Ad z z<|Ab<|?_
      obtain rfl:=Aa hr7
      have hC12:=hC10.h1
      exact Am (l':=[(0,u1),(1,u2),(2,u3),(3,u4),(9,(I x4)),(11,v8),(12,(I (if x8.2.2.1 < (List.length x10:Int) then x8.2.2.1 else (List.length x10:Int))))]) ⟨z,z,z,z,z,z,z,Aj⟩<|⟨if x8.2.2.1 < (List.length x10:Int) then x8.2.2.1 else (List.length x10:Int),z,z,(Al _ _),hC12⟩
     replace hr7:=A8 hr7 hc5
     refine AF ?_
     obtain rfl:=Aa hr7
     have hC13:=hC10.h1
     exact Am (l':=[(0,u1),(1,u2),(2,u3),(3,u4),(9,(I x4)),(11,v8),(12,(I (List.length x10:Int)))]) ⟨z,z,z,z,z,z,z,Aj⟩<|⟨(List.length x10:Int),z,z,(Al _ _),hC13⟩
    rintro l3 _ w13 hs3 ⟨x11,rfl,rfl,hB11,hC11⟩
    try dsimp only at hL1
    refine AY hs3 ?_
    clear hs3
    refine A6<|Ac<|Ae z z<|Ae z z<|be hL1 fun x12 hx5 hL1=>AH A0 ty46 g4 hx5 z z z fun b6 o5 h12=>fd AK Bp z z z z<|AI ty31 h12.snd hC11.keep z z fun v9 h13=>Bc Ai h13 z z<|Ae z z<|Ch z z z<|Ab<|AE z (fun hc6=>?_) (fun hc6=>?_)
    ·replace hL1:=A7 hL1 hc6
     refine Ac<|Ad z z<|Ab<|AL<|Av<|Bd<|Av<|Av<|Bd<|Av<|Av<|?_
     obtain rfl:=Aa hL1
     dsimp only at hF
     obtain rfl:=Aa hF
     exact A2 z z<|⟨_,z,AN hC11 _⟩
    replace hL1:=A8 hL1 hc6
    refine AF<|Ap<|Ac<|Ad z z<|Ab<|be hL1 fun r4 hr8 hL1=>Bi (fun l w=>.inl ()=r4∧l=[(0,u1),(1,u2),(2,u3),(3,u4),(9,(I x4))]∧Below w13.heap.size w13 w∧Ctx [] w0 w []) ?_ ?_
    ·refine AJ<|wS (l':=[(0,u1),(1,u2),(2,u3),(3,u4),(9,(I x4)),(11,v8),(13,(I 0))]) ⟨z,z,z,z,z,z,z,Aj⟩<|B2 (fun k l w=>∃x13:Int,l=[(0,u1),(1,u2),(2,u3),(3,u4),(9,(I x4)),(11,v8),(13,(I x13))]∧Below w13.heap.size w13 w∧Ctx [] w0 w [Af v8 (x10:(List (Int × (List Int))))]∧S.Explains_l2 a4 x4 x10 k x13=some r4) FUEL ⟨0,z,(Al _ _),hC11,hr8⟩<|?_
     clear hr8
     rintro k2 _ w14 ⟨x13,rfl,hB12,hC14,hL2⟩
     cases k2 with
     | zero=>rw [S.Explains_l2] at hL2; cases hL2
     | succ k2 =>
      rw [S.Explains_l2] at hL2
      refine A6<|Ac<|Ae z z<|Ae z z<|Ae z z<|be hL2 fun x14 hx6 hL2=>AH A0 ty46 g4 hx6 z z z fun b7 o6 h14=>fd AK Bp z z z z<|AI ty31 h14.snd hC14.keep z z fun v10 h15=>Bc Ai h15 z z<|Bv z z z<|Ab<|AE z (fun hc7=>?_) (fun hc7=>?_)
      ·replace hL2:=A7 hL2 hc7
       refine AF<|Ap<|A6<|AJ<|Ac<|Ae z z<|Ae z z<|Ae z z<|be hL2 fun x15 hx7 hL2=>AH A0 ty46 g4 hx7 z z z fun b8 o7 h16=>fd AK Bp z z z z<|AI ty31 h16.snd hC14.keep z z fun v11 h17=>Ae z z<|be hL2 fun x16 hx8 hL2=>AH Ai ty88 h17 hx8 z z z fun b9 o8 h18=>AI ty88 h18 hC14.keep z z fun v12 h19=>?_
       obtain ⟨v13,rfl,h20⟩:=BD h19
       refine be hL2 fun x17 hr9 hL2=>cb CS z z (c_S_HasFact x10 v8 ((hC14.ro 0 z).now (A1 _ _)) x16 v13 (h20.now hC14.keep) x17 hr9) fun w15 hB13=>have hC15:=hC14.grow hB13;B3 z z<|Ab<|AE z (fun hc8=>?_) (fun hc8=>?_)
       ·replace hL2:=A7 hL2 hc8
        refine Ac<|Ad z z<|Ab<|AL<|Bd<|Av<|Av<|Bd<|Av<|Bd<|Av<|Av<|Bd<|Av<|Av<|?_
        obtain rfl:=Aa hL2
        dsimp only at hL1
        obtain rfl:=Aa hL1
        dsimp only at hF
        obtain rfl:=Aa hF
        exact A2 z z<|⟨_,z,AN hC15 _⟩
       replace hL2:=A8 hL2 hc8
       exact AF<|AU<|Ap<|Bg<|Ae z z<|Bn z z z<|Ad z z<|Ab<|Am (l':=[(0,u1),(1,u2),(2,u3),(3,u4),(9,(I x4)),(11,v8),(13,(I (w64 (x13+1))))]) ⟨z,z,z,z,z,z,z,Aj⟩<|⟨k2,A3 _,w64 (x13+1),z,((Ao hB12).then hB13).below,hC15,hL2⟩
      replace hL2:=A8 hL2 hc7
      refine B1 (A9 (A9 (Bk ?_)))
      obtain rfl:=Aa hL2
      have hC16:=hC14.h0
      exact Am (l':=[(0,u1),(1,u2),(2,u3),(3,u4),(9,(I x4))]) ⟨z,z,z,z,z,Aj⟩<|⟨z,z,(Ao hB12).below,hC16⟩
    rintro l5 _ w16 hs5 ⟨rfl,rfl,hB14,hC17⟩
    try dsimp only at hL1
    refine AU<|AY hs5<|?_
    clear hs5
    exact Bg<|Ae z z<|Bn z z z<|Ad z z<|Ab<|Am (l':=[(0,u1),(1,u2),(2,u3),(3,u4),(9,(I (w64 (x4+1))))]) ⟨z,z,z,z,z,Aj⟩<|⟨k1,A3 _,w64 (x4+1),z,hC17,hL1⟩
   replace hL1:=A8 hL1 hc3
   refine B1 (A9 (A9 (Bk ?_)))
   obtain rfl:=Aa hL1
   exact Am (l':=[]) Aj<|⟨z,z,hC4⟩
 rintro l6 _ w17 hs6 ⟨rfl,rfl,hC18⟩
 try dsimp only at hF
 refine AY hs6 ?_
 clear hs6
 refine Ac<|Ad z z<|Ab<|AL<|?_
 obtain rfl:=Aa hF
 exact A2 z z<|⟨_,z,AN hC18 _⟩
theorem c_S_l13Rules {w0:World} {Fs:List (List Nat)} (pb1:Nat) (a1:((List UInt8) × Int × Int)) (u1:Value) (g1:RO Fs.flatten w0 u1 a1.1) (a2:(List Int)) (u2:Value) (g2:RO Fs.flatten w0 u2 a2) (hH:Hold [Ag pb1 [u1,(I a1.2.1),(I a1.2.2)]] w0 Fs) (hn:Fs.flatten.Nodup) (rr:((List (Int × Int × (List Int))) × ((List UInt8) × Int × Int))) (hF:S.l13Rules a1 a2=some rr) :
 Calls Tryz.prog 82 [(ptr pb1 0),u2].toArray w0 fun e w'=>∃v,e=.returned v∧∃q0:Value,v=q0∧Ctx Fs.flatten w0 w' [Af q0 (rr.1:(List (Int × Int × (List Int)))),Ag pb1 [u1,(I rr.2.2.1),(I rr.2.2.2)]]:=by
 refine Ax Tryz.func82 z z ?_
 have hC0:=BE hH hn
 unfold S.l13Rules at hF
 refine Ac<|Ad z z<|Ab<|Ac<|AC (vs:=[]) hC0 B5 ty131 z z z z (by simp) z z fun b1 w1 hC1 hB1=>?_
 have hC2:=hC1.row0 (α:=(Int × Int × (List Int)))
 have hC3:=hC2.front 1 z
 dsimp only [List.eraseIdx,List.cons_append,List.nil_append,List.append_nil] at hC3
 have hC4:Ctx Fs.flatten w0 w1 (Af (.slice (some ⟨b1,0,none⟩) 0 0) (([]:List (Int × Int × (List Int))):List (Int × Int × (List Int)))::[Ag pb1 [u1,(I a1.2.1),(I a1.2.2)]]):=hC3.rowOwn (by simp [maxLen])
 refine Ad z z<|Ab<|A6<|Ac<|Ae z z<|be hF fun x1 hr1 hF=>have hC5:=hC4.f1;?_
 obtain ⟨Fs1,hH1,hn1,hF1,hO1,hb1⟩:=AX (As:=[Af (.slice (some ⟨b1,0,none⟩) 0 0) (([]:List (Int × Int × (List Int))):(List (Int × Int × (List Int))))]) [Ag pb1 [u1,(I a1.2.1),(I a1.2.2)]] hC5
 refine AG Bo z z (c_S_l1Below pb1 (a1.1,a1.2.1,a1.2.2) u1 (Bf g1 hC5.keep hF1) 4 hH1 hn1 x1 hr1) ?_
 rintro _ w2 ⟨rfl,hq1⟩
 have hC6:Ctx Fs.flatten w0 w2 [Ag pb1 [u1,(I x1.2.2.1),(I x1.2.2.2)],Af (.slice (some ⟨b1,0,none⟩) 0 0) (([]:List (Int × Int × (List Int))):(List (Int × Int × (List Int))))]:=hb1 _ _ hq1
 refine Ad z z<|Ab<|be hF fun r1 hr2 hF=>Bi (fun l w=>∃x6:Int,∃x7:Int,∃v2:Value,∃x8:(List (Int × Int × (List Int))),(x6,x7,x8)=r1∧l=[(5,v2)]∧Ctx Fs.flatten w0 w [Ag pb1 [u1,(I x6),(I x7)],Af v2 (x8:(List (Int × Int × (List Int))))]) ?_ ?_
 ·refine AJ<|wS (l':=[(0,(ptr pb1 0)),(1,u2),(5,(.slice (some ⟨b1,0,none⟩) 0 0)),(6,(I x1.1))]) ⟨z,z,z,z,Aj⟩<|B2 (fun k l w=>∃x2:Int,∃x3:Int,∃v1:Value,∃x4:(List (Int × Int × (List Int))),∃x5:Int,l=[(0,(ptr pb1 0)),(1,u2),(5,v1),(6,(I x5))]∧Ctx Fs.flatten w0 w [Ag pb1 [u1,(I x2),(I x3)],Af v1 (x4:(List (Int × Int × (List Int))))]∧S.l13Rules_l1 a1 a2 k x2 x3 x4 x5=some r1) FUEL ⟨x1.2.2.1,x1.2.2.2,(.slice (some ⟨b1,0,none⟩) 0 0),([]:List (Int × Int × (List Int))),x1.1,z,hC6,hr2⟩<|?_
  clear hr2
  rintro k1 _ w3 ⟨x2,x3,v1,x4,x5,rfl,hC7,hL1⟩
  cases k1 with
  | zero=>rw [S.l13Rules_l1] at hL1; cases hL1
  | succ k1 =>
   rw [S.l13Rules_l1] at hL1
   refine A6<|Ac<|Ae z z<|Ca z z z<|Ab<|AE z (fun hc1=>?_) (fun hc1=>?_)
   ·replace hL1:=A7 hL1 hc1
    refine AF<|Ap<|A6<|AJ<|Ac<|Ae z z<|Ae z z<|Bc Ak g2 z z<|be hL1 fun x9 hr3 hL1=>?_
    obtain ⟨Fs2,hH2,hn2,hF2,hO2,hb2⟩:=AX (As:=[Af v1 (x4:(List (Int × Int × (List Int))))]) [Ag pb1 [u1,(I x2),(I x3)]] hC7
    refine AG Bo z z (c_S_l1Below pb1 (a1.1,x2,x3) u1 (Bf g1 hC7.keep hF2) (List.length a2:Int) hH2 hn2 x9 hr3) ?_
    rintro _ w4 ⟨rfl,hq2⟩
    have hC8:Ctx Fs.flatten w0 w4 [Ag pb1 [u1,(I x9.2.2.1),(I x9.2.2.2)],Af v1 (x4:(List (Int × Int × (List Int))))]:=hb2 _ _ hq2
    refine Ae z z<|Ae z z<|Bc Ak g2 z z<|be hL1 fun x10 hr4 hL1=>?_
    obtain ⟨Fs3,hH3,hn3,hF3,hO3,hb3⟩:=AX (As:=[Af v1 (x4:(List (Int × Int × (List Int))))]) [Ag pb1 [u1,(I x9.2.2.1),(I x9.2.2.2)]] hC8
    refine AG Bo z z (c_S_l1Below pb1 (a1.1,x9.2.2.1,x9.2.2.2) u1 (Bf g1 hC8.keep hF3) (List.length a2:Int) hH3 hn3 x10 hr4) ?_
    rintro _ w5 ⟨rfl,hq3⟩
    have hC9:Ctx Fs.flatten w0 w5 [Ag pb1 [u1,(I x10.2.2.1),(I x10.2.2.2)],Af v1 (x4:(List (Int × Int × (List Int))))]:=hb3 _ _ hq3
    refine BH (vs:=[(0,(I x9.1)),(1,(I x10.1))]) z z z (built131_0_1 z z)<|Bw hC9 zero131 z z fun b2 w6 hC10 hB3 hN1=>AA (cs':=[(I x9.1),(I x10.1),(.slice none 0 0)]) (new:=[(I x9.1),(I x10.1),(.slice none 0 0)]) hC10 0 z z (fac z<|fac z<|fac z<|fa0) z Cs z z fun w7 hC11 hKp1=>?_
    try dsimp only [List.set] at hC11
    have hk1:=AO (Ao hB3) hN1 hKp1
    refine Ab<|A6<|Ac<|Ad z z<|Ab<|be hL1 fun r2 hr5 hL1=>Bi (fun l w=>∃x17:Int,∃x18:Int,∃v4:Value,∃x19:(List Int),∃x20:Int,∃x21:Int,(x17,x18,x19,x20,x21)=r2∧l=[(0,(ptr pb1 0)),(1,u2),(5,v1),(6,(I x5)),(7,(ptr b2 0))]∧Ctx Fs.flatten w0 w [Af v4 (x19:(List Int)),Ag b2 [(I x17),(I x18),v4],Ag pb1 [u1,(I x20),(I x21)],Af v1 (x4:(List (Int × Int × (List Int))))]) ?_ ?_
    ·refine AJ ?_
     have hC28:=hC11.triv (nil_val (α:=Int))
     refine wS (l':=[(0,(ptr pb1 0)),(1,u2),(5,v1),(6,(I x5)),(7,(ptr b2 0)),(8,(I 0))]) ⟨z,z,z,z,z,z,Aj⟩<|B2 (fun k l w=>∃x11:Int,∃x12:Int,∃v3:Value,∃x13:(List Int),∃x14:Int,∃x15:Int,∃x16:Int,l=[(0,(ptr pb1 0)),(1,u2),(5,v1),(6,(I x5)),(7,(ptr b2 0)),(8,(I x16))]∧Ctx Fs.flatten w0 w [Af v3 (x13:(List Int)),Ag b2 [(I x11),(I x12),v3],Ag pb1 [u1,(I x14),(I x15)],Af v1 (x4:(List (Int × Int × (List Int))))]∧S.l13Rules_l2 a2 a1 k x11 x12 x13 x14 x15 x16=some r2) FUEL ⟨x9.1,x10.1,(.slice none 0 0),[],x10.2.2.1,x10.2.2.2,0,z,hC28,hr5⟩<|?_
     clear hr5
     rintro k2 _ w9 ⟨x11,x12,v3,x13,x14,x15,x16,rfl,hC12,hL2⟩
     cases k2 with
     | zero=>rw [S.l13Rules_l2] at hL2; cases hL2
     | succ k2 =>
      rw [S.l13Rules_l2] at hL2
      refine A6<|Ac<|Ae z z<|Ae z z<|fd Bb Ay z z z z<|Aq hC12 1 z z AR z z<|be hL2 fun x22 hx1 hL2=>AH Ak ty3 g2 hx1 z z z fun b3 o1 h1=>AI ty3 h1 hC12.keep z z fun v5 h2=>?_
      obtain rfl:=B8 h2
      refine Bv z z z<|Ab<|AE z (fun hc2=>?_) (fun hc2=>?_)
      ·replace hL2:=A7 hL2 hc2
       refine AF<|Ap<|A6<|AJ<|Ac<|Ae z z<|Ae z z<|fd Bb Ay z z z z<|Aq hC12 1 z z AR z z<|be hL2 fun x23 hx2 hL2=>AH Ak ty3 g2 hx2 z z z fun b4 o2 h3=>AI ty3 h3 hC12.keep z z fun v6 h4=>?_
       obtain rfl:=B8 h4
       refine be hL2 fun x24 hr6 hL2=>have hC13:=hC12.f2;?_
       obtain ⟨Fs4,hH4,hn4,hF4,hO4,hb4⟩:=AX (As:=[Af v3 (x13:(List Int)),Ag b2 [(I x11),(I x12),v3],Af v1 (x4:(List (Int × Int × (List Int))))]) [Ag pb1 [u1,(I x14),(I x15)]] hC13
       refine AG Bo z z (c_S_l1Below pb1 (a1.1,x14,x15) u1 (Bf g1 hC13.keep hF4) x23 hH4 hn4 x24 hr6) ?_
       rintro _ w10 ⟨rfl,hq4⟩
       have hC14:Ctx Fs.flatten w0 w10 [Ag pb1 [u1,(I x24.2.2.1),(I x24.2.2.2)],Af v3 (x13:(List Int)),Ag b2 [(I x11),(I x12),v3],Af v1 (x4:(List (Int × Int × (List Int))))]:=hb4 _ _ hq4
       refine Ad z z<|Ab<|Bg<|fd Bb Az z z z z<|Aq hC14 2 z z AM z z<|Ae z z<|AC (vs:=[(I x24.1)]) hC14 Ak ty3 z z z z (fac z<|fa0) z z fun b5 w11 hC15 hB5=>?_
       have hC16:=hC15.row0 (α:=Int)
       have hC17:=hC16.triv (Bx (x24.1))
       have hC18:=hC17.row1
       have hC19:=hC18.front 1 z
       dsimp only [List.eraseIdx,List.cons_append,List.nil_append,List.append_nil] at hC19
       have hC20:Ctx Fs.flatten w0 w11 (Af (.slice (some ⟨b5,0,none⟩) 1 1) ([x24.1]:List Int)::[Ag pb1 [u1,(I x24.2.2.1),(I x24.2.2.2)],Af v3 (x13:(List Int)),Ag b2 [(I x11),(I x12),v3],Af v1 (x4:(List (Int × Int × (List Int))))]):=hC19.rowOwn (by simp [maxLen])
       refine be hL2 fun x25 hx3 hL2=>BF (α:=Int) hC20 2 z (hC20.ro 0 z) (A1 _ _) Ak ty3 z hx3 z z z fun v7 w12 hC21=>?_
       try dsimp only [List.set] at hC21
       refine fd Bb Az z z z z<|B9 (cs':=[(I x11),(I x12),v7]) hC21 3 z z (B0 (hC21.ro 2 z)) z Az z z fun w13 hC22 hKp2=>?_
       try dsimp only [List.set] at hC22
       exact Ab<|AU<|Ap<|Bg<|Ae z z<|Bn z z z<|Ad z z<|Ab<|have hC23:=hC22.f4;have hC24:=hC23.f2;have hC25:=hC24.f4;have hC26:=hC25.f4;have hC27:=hC26.h4;Am (l':=[(0,(ptr pb1 0)),(1,u2),(5,v1),(6,(I x5)),(7,(ptr b2 0)),(8,(I (w64 (x16+1))))]) ⟨z,z,z,z,z,z,Aj⟩<|⟨k2,A3 _,x11,x12,v7,x25,x24.2.2.1,x24.2.2.2,w64 (x16+1),z,hC27,hL2⟩
      replace hL2:=A8 hL2 hc2
      refine B1 (A9 (A9 (Bk ?_)))
      obtain rfl:=Aa hL2
      exact Am (l':=[(0,(ptr pb1 0)),(1,u2),(5,v1),(6,(I x5)),(7,(ptr b2 0))]) ⟨z,z,z,z,z,Aj⟩<|⟨x11,x12,v3,x13,x14,x15,z,z,hC12⟩
    rintro l3 _ w14 hs3 ⟨x17,x18,v4,x19,x20,x21,rfl,rfl,hC29⟩
    try dsimp only at hL1
    refine AY hs3 ?_
    clear hs3
    refine Bg<|Ae z z<|Au [(I x17),(I x18),v4] hC29 1 z z z Tryz.isAgg131 Cs z z<|AC (vs:=[(.agg #[(I x17),(I x18),v4])]) hC29 B5 ty131 z z z z (fac z<|fa0) z z fun b6 w15 hC30 hB7=>?_
    have hC31:=hC30.row0 (α:=(Int × Int × (List Int)))
    have hC33:=hC31.f2
    have hC32:=own_st131 x17 x18 v4 x19 hC33
    have hC34:=hC32.row1
    have hC35:=hC34.front 1 z
    dsimp only [List.eraseIdx,List.cons_append,List.nil_append,List.append_nil] at hC35
    have hC36:Ctx Fs.flatten w0 w15 (Af (.slice (some ⟨b6,0,none⟩) 1 1) ([(x17,x18,x19)]:List (Int × Int × (List Int)))::[Ag b2 [(I x17),(I x18),v4],Ag pb1 [u1,(I x20),(I x21)],Af v1 (x4:(List (Int × Int × (List Int))))]):=hC35.rowOwn (by simp [maxLen])
    refine be hL1 fun x26 hx4 hL1=>By hC36 2 z B5 ty131 z hx4 z z z fun v8 w16 hC37=>?_
    try dsimp only [List.set] at hC37
    exact Ad z z<|Ab<|AU<|Ap<|Bg<|Ae z z<|BR z z z<|Ad z z<|Ab<|have hC39:=hC37.f2;have hC40:=hC39.f2;have hC41:=hC40.h2;Am (l':=[(0,(ptr pb1 0)),(1,u2),(5,v8),(6,(I (w64 (x5 - 1))))]) ⟨z,z,z,z,Aj⟩<|⟨k1,A3 _,x20,x21,v8,x26,w64 (x5 - 1),z,hC41,hL1⟩
   replace hL1:=A8 hL1 hc1
   refine B1 (A9 (A9 (Bk ?_)))
   obtain rfl:=Aa hL1
   exact Am (l':=[(5,v1)]) ⟨z,Aj⟩<|⟨x2,x3,v1,x4,z,z,hC7⟩
 rintro l4 _ w17 hs4 ⟨x6,x7,v2,x8,rfl,rfl,hC42⟩
 try dsimp only at hF
 refine AY hs4 ?_
 clear hs4
 refine Ac<|Ae z z<|Ad z z<|Ab<|AL<|?_
 obtain rfl:=Aa hF
 exact A2 z z<|have hC43:=hC42.f1;⟨_,z,_,z,hC43⟩
theorem c_S_DrawBrokenRules {w0:World} (a1:(List UInt8)) (u1:Value) (g1:RO [] w0 u1 a1) (rr:((List Int) × (List (Int × (List Int) × Int × Int × Int)) × (List (Int × Int × (List Int))) × (List ((Int × (List Int)) × (List (Int × (List Int))))))) (hF:S.DrawBrokenRules a1=some rr) :
 Calls Tryz.prog 22 [u1].toArray w0 fun e w'=>∃v,e=.returned v∧∃q0:Value,∃q1:Value,∃q2:Value,∃q3:Value,v=(.tuple #[q0,q1,q2,q3])∧Ctx [] w0 w' [Af q0 (rr.1:(List Int)),Af q1 (rr.2.1:(List (Int × (List Int) × Int × Int × Int))),Af q2 (rr.2.2.1:(List (Int × Int × (List Int)))),Af q3 (rr.2.2.2:(List ((Int × (List Int)) × (List (Int × (List Int))))))]:=by
 refine Ax Tryz.func22 z z ?_
 have hC0:=A5 w0
 unfold S.DrawBrokenRules at hF
 refine Ac<|Ad z z<|Ad z z<|Ad z z<|Ad z z<|Ab<|Ac<|Ae z z<|be hF fun x1 hr1 hF=>AG C4 z z (c_S_l1New a1 u1 (g1.now hC0.keep) x1 hr1)<|?_
 rintro _ w1 ⟨b1,rfl,hq1⟩
 have hC1:Ctx [] w0 w1 [Ag b1 [u1,(I x1.2.1),(I x1.2.2)]]:=hC0.push2 hq1
 refine Ad z z<|Ab<|Ac<|Ae z z<|be hF fun x2 hr2 hF=>?_
 obtain ⟨Fs2,hH2,hn2,hF2,hO2,hb2⟩:=AX (As:=[]) [Ag b1 [u1,(I x1.2.1),(I x1.2.2)]] hC1
 refine AG C5 z z (c_S_l28List b1 (a1,x1.2.1,x1.2.2) u1 (Bf g1 hC1.keep hF2) hH2 hn2 x2 hr2) ?_
 rintro _ w2 ⟨v1,v2,v3,v4,rfl,hq2⟩
 have hC2:Ctx [] w0 w2 [Af v1 (x2.1:(List Int)),Af v2 (x2.2.1:(List (Int × (List Int) × Int × Int × Int))),Af v3 (x2.2.2.1:(List (Int × (List Int)))),Af v4 (x2.2.2.2.1:(List ((Int × (List Int)) × (List (Int × (List Int)))))),Ag b1 [u1,(I x2.2.2.2.2.2.1),(I x2.2.2.2.2.2.2)]]:=hb2 _ _ hq2
 refine Ae z z<|Bh z z z<|Bh z z z<|Bh z z z<|Bh z z z<|Ad z z<|Ad z z<|Ad z z<|Ad z z<|Ab<|Ac<|AC (vs:=[]) hC2 B5 ty131 z z z z (by simp) z z fun b2 w3 hC3 hB1=>?_
 have hC4:=hC3.row0 (α:=(Int × Int × (List Int)))
 have hC5:=hC4.front 1 z
 dsimp only [List.eraseIdx,List.cons_append,List.nil_append,List.append_nil] at hC5
 have hC6:Ctx [] w0 w3 (Af (.slice (some ⟨b2,0,none⟩) 0 0) (([]:List (Int × Int × (List Int))):List (Int × Int × (List Int)))::[Af v1 (x2.1:(List Int)),Af v2 (x2.2.1:(List (Int × (List Int) × Int × Int × Int))),Af v3 (x2.2.2.1:(List (Int × (List Int)))),Af v4 (x2.2.2.2.1:(List ((Int × (List Int)) × (List (Int × (List Int)))))),Ag b1 [u1,(I x2.2.2.2.2.2.1),(I x2.2.2.2.2.2.2)]]):=hC5.rowOwn (by simp [maxLen])
 refine Ad z z<|Ab<|A6<|Ac<|Ae z z<|be hF fun x3 hr3 hF=>cb BX z z (c_S_IsSchema x2.1 v1 ((hC6.ro 1 z).now (A1 _ _)) x3 hr3) fun w4 hB2=>have hC7:=hC6.grow hB2;Ab<|be hF fun r1 hr4 hF=>Bi (fun l w=>∃x4:Int,∃x5:Int,∃v5:Value,∃x6:(List (Int × Int × (List Int))),(x4,x5,x6)=r1∧l=[(7,v1),(8,v2),(10,v4),(11,v5)]∧Ctx [] w0 w [Af v5 (x6:(List (Int × Int × (List Int)))),Af v1 (x2.1:(List Int)),Af v2 (x2.2.1:(List (Int × (List Int) × Int × Int × Int))),Af v4 (x2.2.2.2.1:(List ((Int × (List Int)) × (List (Int × (List Int))))))]) ?_ ?_
 ·refine AE z (fun hc1=>?_) (fun hc1=>?_)
  ·replace hr4:=A7 hr4 hc1
   refine Bg<|Ae z z<|Ae z z<|be hr4 fun x7 hr5 hr4=>have hC9:=hC7.f5;?_
   obtain ⟨Fs3,hH3,hn3,hF3,hO3,hb3⟩:=AX (As:=[Af (.slice (some ⟨b2,0,none⟩) 0 0) (([]:List (Int × Int × (List Int))):(List (Int × Int × (List Int)))),Af v1 (x2.1:(List Int)),Af v2 (x2.2.1:(List (Int × (List Int) × Int × Int × Int))),Af v3 (x2.2.2.1:(List (Int × (List Int)))),Af v4 (x2.2.2.2.1:(List ((Int × (List Int)) × (List (Int × (List Int))))))]) [Ag b1 [u1,(I x2.2.2.2.2.2.1),(I x2.2.2.2.2.2.2)]] hC9
   refine AG Tryz.call82 z z (c_S_l13Rules b1 (a1,x2.2.2.2.2.2.1,x2.2.2.2.2.2.2) u1 (Bf g1 hC9.keep hF3) x2.1 v1 (hO3 1 _ _ _ z) hH3 hn3 x7 hr5) ?_
   rintro v6 w6 ⟨_,rfl,hq3⟩
   have hC10:Ctx [] w0 w6 [Af v6 (x7.1:(List (Int × Int × (List Int)))),Ag b1 [u1,(I x7.2.2.1),(I x7.2.2.2)],Af (.slice (some ⟨b2,0,none⟩) 0 0) (([]:List (Int × Int × (List Int))):(List (Int × Int × (List Int)))),Af v1 (x2.1:(List Int)),Af v2 (x2.2.1:(List (Int × (List Int) × Int × Int × Int))),Af v3 (x2.2.2.1:(List (Int × (List Int)))),Af v4 (x2.2.2.2.1:(List ((Int × (List Int)) × (List (Int × (List Int))))))]:=hb3 _ _ hq3
   refine Ad z z<|Ab<|?_
   obtain rfl:=Aa hr4
   have hC11:=hC10.f6
   have hC12:=hC11.f5
   have hC13:=hC12.f5
   have hC14:=hC13.f3
   have hC15:=hC14.h4
   exact Am (l':=[(7,v1),(8,v2),(10,v4),(11,v6)]) ⟨z,z,z,z,Aj⟩<|⟨x7.2.2.1,x7.2.2.2,v6,x7.1,z,z,hC15⟩
  replace hr4:=A8 hr4 hc1
  refine AF ?_
  obtain rfl:=Aa hr4
  have hC16:=hC7.f4
  have hC17:=hC16.f3
  have hC18:=hC17.f3
  have hC19:=hC18.f3
  have hC20:=hC19.h4
  exact Am (l':=[(7,v1),(8,v2),(10,v4),(11,(.slice (some ⟨b2,0,none⟩) 0 0))]) ⟨z,z,z,z,Aj⟩<|⟨x2.2.2.2.2.2.1,x2.2.2.2.2.2.2,(.slice (some ⟨b2,0,none⟩) 0 0),([]:List (Int × Int × (List Int))),z,z,hC20⟩
 rintro l1 _ w5 hs1 ⟨x4,x5,v5,x6,rfl,rfl,hC8⟩
 try dsimp only at hF
 refine AY hs1 ?_
 clear hs1
 refine Ac<|Ae z z<|Ae z z<|Ae z z<|Ae z z<|Ad z z<|Ad z z<|Ad z z<|Ad z z<|Ab<|AL<|?_
 obtain rfl:=Aa hF
 exact fn_ret4 z z z z z<|have hC21:=hC8.f3;have hC22:=hC21.f1;have hC23:=hC22.f3;have hC24:=hC23.f3;⟨_,z,_,_,_,_,z,hC24⟩
theorem c_M_arePositions_c1 {w0:World} (a1:Int) (pb1:Nat) (ax1:Int) (g1:ROAt [] w0 pb1 0 ax1) (rr:Bool) (hF:M.arePositions_c1 a1 ax1=some rr) :
 Calls Tryz.prog 209 [(I a1),(ptr pb1 0)].toArray w0 fun e w'=>∃v,e=.returned v∧Res w0 rr v w':=by
 refine Ax Tryz.func209 z z ?_
 have hC0:=A5 w0
 unfold M.arePositions_c1 at hF
 refine Ac<|Ad z z<|Ab<|Ac<|Ae z z<|AI ty3 g1 hC0.keep z z fun v1 h1=>?_
 obtain rfl:=B8 h1
 refine BR z z z<|be hF fun x1 hr1 hF=>cb BW z z (c_M_within a1 0 (w64 (ax1 - 1)) x1 hr1) fun w1 hB1=>have hC1:=hC0.grow hB1;B3 z z<|Ad z z<|Ab<|AL<|?_
 obtain rfl:=Aa hF
 exact A2 z z<|⟨_,z,AN hC1 _⟩
theorem c_Slices_IndexFunc_Lint_int_M_arePositions_c1 {w0:World} (a1:(List Int)) (u1:Value) (g1:RO [] w0 u1 a1) (pb1:Nat) (ax1:Int) (g2:ROAt [] w0 pb1 0 ax1) (rr:Int) (hF:Slices.IndexFunc_Lint_int_M_arePositions_c1 a1 ax1=some rr) :
 Calls Tryz.prog 205 [u1,(.func (.func 209) #[] #[(ptr pb1 0)])].toArray w0 fun e w'=>∃v,e=.returned v∧Res w0 rr v w':=by
 refine Ax CH z z ?_
 have hC0:=A5 w0
 unfold Slices.IndexFunc_Lint_int_M_arePositions_c1 at hF
 refine Ac<|Ad z z<|Ab<|A6<|Ac<|Ae z z<|Bc Ak g1 z z<|Ae z z<|Ab<|be hF fun r1 hr1 hF=>Bi (fun l w=>.inl ()=r1∧l=[]∧Below w0.heap.size w0 w∧Ctx [] w0 w []) ?_ ?_
 ·refine AJ<|wS (l':=[(0,u1),(1,(.func (.func 209) #[] #[(ptr pb1 0)])),(7,(I (List.length a1:Int))),(8,(I 0))]) ⟨z,z,z,z,Aj⟩<|B2 (fun k l w=>∃x1:Int,l=[(0,u1),(1,(.func (.func 209) #[] #[(ptr pb1 0)])),(7,(I (List.length a1:Int))),(8,(I x1))]∧Below w0.heap.size w0 w∧Ctx [] w0 w []∧Slices.IndexFunc_Lint_int_M_arePositions_c1_l1 a1 ax1 k x1=some r1) FUEL ⟨0,z,(Al _ _),hC0,hr1⟩<|?_
  clear hr1
  rintro k1 _ w1 ⟨x1,rfl,hB1,hC1,hL1⟩
  cases k1 with
  | zero=>rw [Slices.IndexFunc_Lint_int_M_arePositions_c1_l1] at hL1; cases hL1
  | succ k1 =>
   rw [Slices.IndexFunc_Lint_int_M_arePositions_c1_l1] at hL1
   refine Ac<|Bv z z z<|Ab<|A6<|AE z (fun hc1=>?_) (fun hc1=>?_)
   ·replace hL1:=A7 hL1 hc1
    refine AF<|Ap<|A6<|AJ<|Ac<|Ae z z<|Ad z z<|Ab<|Ac<|Ae z z<|Ae z z<|Ae z z<|be hL1 fun x2 hx1 hL1=>AH Ak ty3 g1 hx1 z z z fun b1 o1 h1=>AI ty3 h1 hC1.keep z z fun v1 h2=>?_
    obtain rfl:=B8 h2
    refine be hL1 fun x3 hr2 hL1=>BT (cap:=[(ptr pb1 0)]) Tryz.call209 z z z (c_M_arePositions_c1 x2 pb1 ax1 (g2.now hC1.keep) x3 hr2) fun _ w2 hv1=>?_
    obtain ⟨rfl,hB2⟩:=BU hv1
    have hC2:=hC1.grow hB2
    refine Ab<|AE z (fun hc2=>?_) (fun hc2=>?_)
    ·replace hL1:=A7 hL1 hc2
     refine Ac<|Ae z z<|Ad z z<|Ab<|AL<|Bd<|Av<|Av<|Bd<|Av<|Av<|?_
     obtain rfl:=Aa hL1
     dsimp only at hF
     obtain rfl:=Aa hF
     exact A2 z z<|⟨_,z,B4 hC2 _⟩
    replace hL1:=A8 hL1 hc2
    exact AF<|AU<|Ap<|Bg<|Bn z z z<|Ae z z<|Ab<|Am (l':=[(0,u1),(1,(.func (.func 209) #[] #[(ptr pb1 0)])),(7,(I (List.length a1:Int))),(8,(I (w64 (x1+1))))]) ⟨z,z,z,z,Aj⟩<|⟨k1,A3 _,w64 (x1+1),z,((Ao hB1).then hB2).below,hC2,hL1⟩
   replace hL1:=A8 hL1 hc1
   refine B1 (A9 (A9 (Bk ?_)))
   obtain rfl:=Aa hL1
   exact Am (l':=[]) Aj<|⟨z,z,(Ao hB1).below,hC1⟩
 rintro l2 _ w3 hs2 ⟨rfl,rfl,hB3,hC3⟩
 try dsimp only at hF
 refine AY hs2 ?_
 clear hs2
 refine Ac<|Ad z z<|Ab<|AL<|?_
 obtain rfl:=Aa hF
 exact A2 z z<|⟨_,z,B4 hC3 _⟩
theorem c_Slices_ContainsFunc_Lint_int_M_arePositions_c1 {w0:World} (a1:(List Int)) (u1:Value) (g1:RO [] w0 u1 a1) (pb1:Nat) (ax1:Int) (g2:ROAt [] w0 pb1 0 ax1) (rr:Bool) (hF:Slices.ContainsFunc_Lint_int_M_arePositions_c1 a1 ax1=some rr) :
 Calls Tryz.prog 182 [u1,(.func (.func 209) #[] #[(ptr pb1 0)])].toArray w0 fun e w'=>∃v,e=.returned v∧Res w0 rr v w':=by
 refine Ax CI z z ?_
 have hC0:=A5 w0
 unfold Slices.ContainsFunc_Lint_int_M_arePositions_c1 at hF
 refine Ac<|Ad z z<|Ab<|Ac<|Ae z z<|Ae z z<|be hF fun x1 hr1 hF=>ci CJ z z (c_Slices_IndexFunc_Lint_int_M_arePositions_c1 a1 u1 (g1.now hC0.keep) pb1 ax1 (g2.now hC0.keep) x1 hr1) fun w1 hB1=>have hC1:=hC0.grow hB1;Cf z z z<|Ad z z<|Ab<|AL<|?_
 obtain rfl:=Aa hF
 exact A2 z z<|⟨_,z,AN hC1 _⟩
theorem c_M_arePositions {w0:World} (a1:(List Int)) (u1:Value) (g1:RO [] w0 u1 a1) (a2:Int) (rr:Bool) (hF:M.arePositions a1 a2=some rr) :
 Calls Tryz.prog 188 [u1,(I a2)].toArray w0 fun e w'=>∃v,e=.returned v∧Res w0 rr v w':=by
 refine Ax Tryz.func188 z z ?_
 have hC0:=A5 w0
 unfold M.arePositions at hF
 refine Ac<|Br (cs:=[(I a2)]) hC0 z z z fun b1 w1 hC1 hB1 hN1=>Ad z z<|Ab<|Ac<|Ae z z<|BP z z<|be hF fun x1 hr1 hF=>cb CK z z (c_Slices_ContainsFunc_Lint_int_M_arePositions_c1 a1 u1 (g1.now hC1.keep) b1 a2 (hC1.boxAt 0 z repw_int) x1 hr1) fun w2 hB2=>have hC2:=hC1.grow hB2;B3 z z<|Ad z z<|Ab<|AL<|?_
 obtain rfl:=Aa hF
 exact A2 z z<|⟨_,z,AN hC2 _⟩
theorem c_M_IsRule {w0:World} (a1:(List Int)) (u1:Value) (g1:RO [] w0 u1 a1) (a2:(Int × Int × (List Int))) (u2:Value) (g2:RO [] w0 u2 a2.2.2) (rr:Bool) (hF:M.IsRule a1 a2=some rr) :
 Calls Tryz.prog 142 [u1,(.agg #[(I a2.1),(I a2.2.1),u2])].toArray w0 fun e w'=>∃v,e=.returned v∧Res w0 rr v w':=by
 refine Ax Tryz.func142 z z ?_
 have hC0:=A5 w0
 unfold M.IsRule at hF
 refine Ac<|Br (cs:=[(I a2.1),(I a2.2.1),u2]) hC0 z z z fun b1 w1 hC1 hB1 hN1=>Ad z z<|Ab<|be hF fun r1 hr1 hF=>BI (fun l w=>∃x1:Bool,x1=r1∧l=[(4,(.bool x1))]∧Below w1.heap.size w1 w∧Ctx [] w0 w []) ?_ ?_
 ·refine W_drawn 32 z hmix fun w3 hB3=>have hC3:=hC1.grow hB3;tm 0 z z z<|tf 1 Bb Ay z z z z z<|oe 2 z<|Aq hC3 0 z z AR z z<|Ab<|be hr1 fun x2 hr2 hr1=>oe 3 z<|cb CM z z (c_M_hasRel a1 u1 (g1.now hC3.keep) a2.1 x2 hr2) fun w4 hB4=>have hC4:=hC3.grow hB4;Ab<|tm 4 z z z<|BC (fun hc1=>?_) (fun hc1=>?_)
  ·replace hr1:=A7 hr1 hc1
   refine tn 5 z z z z z<|tg 6 z z z z (BB Bb z z (fun w=>⟨_,Ay w⟩) z)<|Ah z z<|fd Bb Ay z z z z<|Ab<|oe 7 z<|Ah z z<|Aq hC4 0 z z AR z z<|Ab<|be hr1 fun x3 hr3 hr1=>oe 8 z<|Ah z z<|cb CM z z (c_M_hasRel a1 u1 (g1.now hC4.keep) a2.2.1 x3 hr3) fun w5 hB5=>have hC5:=hC4.grow hB5;Ab<|tp 9 z z z z<|tm 10 z z z<|BC (fun hc2=>?_) (fun hc2=>?_)
   ·replace hr1:=A7 hr1 hc2
    refine tg 11 z z z z (BB Bb z z (fun w=>⟨_,Az w⟩) z)<|Ah z z<|fd Bb Az z z z z<|Ab<|tn 14 z z z z z<|tg 15 z z z z (BB Bb z z (fun w=>⟨_,Ay w⟩) z)<|Ah z z<|fd Bb Ay z z z z<|Ab<|be hr1 fun x4 hx1 hr1=>wAS (l':=[(0,u1),(1,(.agg #[(I a2.1),(I a2.2.1),u2])),(3,(ptr b1 0)),(4,(.bool false)),(5,u1),(6,(ptr b1 0)),(7,(I a2.1)),(8,(.bool x2)),(9,(.bool true)),(10,u1),(11,(ptr b1 1)),(12,(I a2.2.1)),(13,(.bool x3)),(14,(.bool x3)),(15,(.bool true)),(16,(ptr b1 2)),(19,u1),(20,(ptr b1 1))]) ⟨z,z,z,z,z,z,z,z,z,z,z,z,z,z,z,z,z,z,Aj⟩<|Bq [⟨12,[],fun vs=>Ba u2,[]⟩,⟨13,[],fun vs=>Ba (I (List.length a2.2.2:Int)),[]⟩,⟨16,[],fun vs=>Ba (I a2.2.1),[]⟩,⟨17,[],fun vs=>BZ [] w0 x4,[]⟩,⟨18,[],fun vs=>Ba (I x4),[]⟩] [[],[12],[],[16],[17]] 13 z (by kernel_rfl) (by kernel_rfl) z ?_ ?_
    ·refine An z ?_ ?_
     ·intro w6 hB6
      refine At<|⟨_,z,?_⟩
      exact Ah z z<|Aq (hC5.grow hB6) 0 z z AM z z<|Ab<|Aw (Al _ _) z z ⟨z,z⟩
     refine An z ?_ ?_
     ·intro w6 hB6
      refine AD z z z ?_
      rintro _ _ ⟨rfl,rfl⟩ _
      refine At<|⟨_,z,?_⟩
      exact Ah z z<|Bc Ak g2 z z<|Ab<|Aw (Al _ _) z z ⟨z,z⟩
     refine An z ?_ ?_
     ·intro w6 hB6
      refine At<|⟨_,z,?_⟩
      exact Ah z z<|Aq (hC5.grow hB6) 0 z z AR z z<|Ab<|Aw (Al _ _) z z ⟨z,z⟩
     refine An z ?_ ?_
     ·intro w6 hB6
      refine AD z z z ?_
      rintro _ _ ⟨rfl,rfl⟩ _
      refine At<|⟨_,z,?_⟩
      exact Ah z z<|AH Ak ty3 g1 hx1 z z z fun b2 o1 h1=>Ab<|Aw (Al _ _) z z ⟨z,_,_,z,h1⟩
     refine An z ?_ ?_
     ·intro w6 hB6
      refine AD z z z ?_
      rintro _ _ ⟨rfl,b2,o1,rfl,h1⟩ _
      refine At<|⟨_,z,?_⟩
      refine Ah z z<|AI ty3 h1 (hC5.keep.then hB6) z z fun v1 h2=>?_
      obtain rfl:=B8 h2
      exact Ab<|Aw (Al _ _) z z ⟨z,z⟩
     exact Bj
    intro w7 hB7
    refine Ar z z z ?_
    rintro _ _ ⟨rfl,rfl⟩
    refine Ar z z z ?_
    rintro _ _ ⟨rfl,rfl⟩
    refine Ar z z z ?_
    rintro _ _ ⟨rfl,rfl⟩
    refine Ar z z z ?_
    rintro _ _ ⟨rfl,b2,o1,rfl,h1⟩
    refine Ar z z z ?_
    rintro _ _ ⟨rfl,rfl⟩
    refine Bt fun hn1 hb1=>have hC6:=hC5.grow hB7;tg 19 z z z z (CR z z)<|Ah z z<|BM z z z<|Ab<|tp 20 z z z z<|tm 21 z z z<|BC (fun hc3=>?_) (fun hc3=>?_)
    ·replace hr1:=A7 hr1 hc3
     refine tg 22 z z z z (BB Bb z z (fun w=>⟨_,Az w⟩) z)<|Ah z z<|fd Bb Az z z z z<|Ab<|tn 24 z z z z z<|tg 25 z z z z (BB Bb z z (fun w=>⟨_,Ay w⟩) z)<|Ah z z<|fd Bb Ay z z z z<|Ab<|be hr1 fun x5 hx2 hr1=>wAS (l':=[(0,u1),(1,(.agg #[(I a2.1),(I a2.2.1),u2])),(3,(ptr b1 0)),(4,(.bool false)),(5,u1),(6,(ptr b1 0)),(7,(I a2.1)),(8,(.bool x2)),(9,(.bool true)),(10,u1),(11,(ptr b1 1)),(12,(I a2.2.1)),(13,(.bool x3)),(14,(.bool x3)),(15,(.bool true)),(16,(ptr b1 2)),(17,u2),(18,(I (List.length a2.2.2:Int))),(19,u1),(20,(ptr b1 1)),(21,(I a2.2.1)),(22,(ptr b2 o1)),(23,(I x4)),(24,(.bool (decide ((List.length a2.2.2:Int)=x4)))),(25,(.bool (decide ((List.length a2.2.2:Int)=x4)))),(26,(.bool true)),(27,(ptr b1 2)),(29,u1),(30,(ptr b1 0))]) ⟨z,z,z,z,z,z,z,z,z,z,z,z,z,z,z,z,z,z,z,z,z,z,z,z,z,z,z,z,z,Aj⟩<|Bq [⟨23,[],fun vs=>Ba u2,[]⟩,⟨26,[],fun vs=>Ba (I a2.1),[]⟩,⟨27,[],fun vs=>BZ [] w0 x5,[]⟩,⟨28,[],fun vs=>Ba (I x5),[]⟩] [[],[],[26],[27]] 3 z (by kernel_rfl) (by kernel_rfl) z ?_ ?_
     ·refine An z ?_ ?_
      ·intro w9 hB8
       refine At<|⟨_,z,?_⟩
       exact Ah z z<|Aq (hC6.grow hB8) 0 z z AM z z<|Ab<|Aw (Al _ _) z z ⟨z,z⟩
      refine An z ?_ ?_
      ·intro w9 hB8
       refine At<|⟨_,z,?_⟩
       exact Ah z z<|Aq (hC6.grow hB8) 0 z z AR z z<|Ab<|Aw (Al _ _) z z ⟨z,z⟩
      refine An z ?_ ?_
      ·intro w9 hB8
       refine AD z z z ?_
       rintro _ _ ⟨rfl,rfl⟩ _
       refine At<|⟨_,z,?_⟩
       exact Ah z z<|AH Ak ty3 g1 hx2 z z z fun b3 o2 h3=>Ab<|Aw (Al _ _) z z ⟨z,_,_,z,h3⟩
      refine An z ?_ ?_
      ·intro w9 hB8
       refine AD z z z ?_
       rintro _ _ ⟨rfl,b3,o2,rfl,h3⟩ _
       refine At<|⟨_,z,?_⟩
       refine Ah z z<|AI ty3 h3 (hC6.keep.then hB8) z z fun v2 h4=>?_
       obtain rfl:=B8 h4
       exact Ab<|Aw (Al _ _) z z ⟨z,z⟩
      exact Bj
     intro w10 hB9
     refine Ar z z z ?_
     rintro _ _ ⟨rfl,rfl⟩
     refine Ar z z z ?_
     rintro _ _ ⟨rfl,rfl⟩
     refine Ar z z z ?_
     rintro _ _ ⟨rfl,b3,o2,rfl,h3⟩
     refine Ar z z z ?_
     rintro _ _ ⟨rfl,rfl⟩
     refine Bt fun hn2 hb2=>have hC7:=hC6.grow hB9;be hr1 fun x6 hr4 hr1=>oe 29 z<|Ah z z<|cb Tryz.call188 z z (c_M_arePositions a2.2.2 u2 (g2.now hC7.keep) x5 x6 hr4) fun w11 hB10=>have hC8:=hC7.grow hB10;Ab<|tp 30 z z z z<|ta 31 z z z<|dn<|?_
     obtain rfl:=Aa hr1
     have hC9:=hC8.h0
     exact Am (l':=[(4,(.bool x6))]) ⟨z,Aj⟩<|⟨x6,z,z,((((((Ao hB3).then hB4).then hB5).then hB7).then hB9).then hB10).below,hC9⟩
    replace hr1:=A8 hr1 hc3
    refine sk 22 z z z z z<|sk 23 z z z z z<|sk 24 z z z z z<|sk 25 z z z z z<|sk 26 z z z z z<|sk 27 z z z z z<|sk 28 z z z z z<|sk 29 z z z z z<|tq 30 z z z z<|ta 31 z z z<|dn<|?_
    obtain rfl:=Aa hr1
    have hC10:=hC6.h0
    exact Am (l':=[(4,(.bool false))]) ⟨z,Aj⟩<|⟨false,z,z,((((Ao hB3).then hB4).then hB5).then hB7).below,hC10⟩
   replace hr1:=A8 hr1 hc2
   refine sk 11 z z z z z<|sk 12 z z z z z<|sk 13 z z z z z<|sk 14 z z z z z<|sk 15 z z z z z<|sk 16 z z z z z<|sk 17 z z z z z<|sk 18 z z z z z<|sk 19 z z z z z<|tq 20 z z z z<|tm 21 z z z<|sk 22 z z z z z<|sk 23 z z z z z<|sk 24 z z z z z<|sk 25 z z z z z<|sk 26 z z z z z<|sk 27 z z z z z<|sk 28 z z z z z<|sk 29 z z z z z<|tq 30 z z z z<|ta 31 z z z<|dn<|?_
   obtain rfl:=Aa hr1
   have hC11:=hC5.h0
   exact Am (l':=[(4,(.bool false))]) ⟨z,Aj⟩<|⟨false,z,z,(((Ao hB3).then hB4).then hB5).below,hC11⟩
  replace hr1:=A8 hr1 hc1
  refine sk 5 z z z z z<|sk 6 z z z z z<|sk 7 z z z z z<|sk 8 z z z z z<|tq 9 z z z z<|tm 10 z z z<|sk 11 z z z z z<|sk 12 z z z z z<|sk 13 z z z z z<|sk 14 z z z z z<|sk 15 z z z z z<|sk 16 z z z z z<|sk 17 z z z z z<|sk 18 z z z z z<|sk 19 z z z z z<|tq 20 z z z z<|tm 21 z z z<|sk 22 z z z z z<|sk 23 z z z z z<|sk 24 z z z z z<|sk 25 z z z z z<|sk 26 z z z z z<|sk 27 z z z z z<|sk 28 z z z z z<|sk 29 z z z z z<|tq 30 z z z z<|ta 31 z z z<|dn<|?_
  obtain rfl:=Aa hr1
  have hC12:=hC4.h0
  exact Am (l':=[(4,(.bool false))]) ⟨z,Aj⟩<|⟨false,z,z,((Ao hB3).then hB4).below,hC12⟩
 rintro _ w2 ⟨x1,rfl,rfl,hB2,hC2⟩
 try dsimp only at hF
 refine AL ?_
 obtain rfl:=Aa hF
 exact A2 z z<|⟨_,z,AN hC2 _⟩
theorem c_M_AreRules_c1 {w0:World} (a1:(Int × Int × (List Int))) (u1:Value) (g1:RO [] w0 u1 a1.2.2) (pb1:Nat) (ax1:(List Int)) (g2:ROAt [] w0 pb1 0 ax1) (rr:Bool) (hF:M.AreRules_c1 a1 ax1=some rr) :
 Calls Tryz.prog 141 [(.agg #[(I a1.1),(I a1.2.1),u1]),(ptr pb1 0)].toArray w0 fun e w'=>∃v,e=.returned v∧Res w0 rr v w':=by
 refine Ax Tryz.func141 z z ?_
 have hC0:=A5 w0
 unfold M.AreRules_c1 at hF
 refine Ac<|Br (cs:=[(I a1.1),(I a1.2.1),u1]) hC0 z z z fun b1 w1 hC1 hB1 hN1=>Ad z z<|Ab<|Ac<|AI ty24 g2 hC1.keep z z fun v1 h1=>Au [(I a1.1),(I a1.2.1),u1] hC1 0 z z z Tryz.isAgg131 Cs z z<|be hF fun x1 hr1 hF=>cb Tryz.call142 z z (c_M_IsRule ax1 v1 (h1.now hC1.keep) (a1.1,a1.2.1,a1.2.2) u1 (g1.now hC1.keep) x1 hr1) fun w2 hB2=>have hC2:=hC1.grow hB2;B3 z z<|Ad z z<|Ab<|AL<|?_
 obtain rfl:=Aa hF
 exact A2 z z<|⟨_,z,AN hC2 _⟩
theorem c_Slices_IndexFunc_Limpl_Rule_impl_Rule_M_AreRules_c1 {w0:World} (a1:(List (Int × Int × (List Int)))) (u1:Value) (g1:RO [] w0 u1 a1) (pb1:Nat) (ax1:(List Int)) (g2:ROAt [] w0 pb1 0 ax1) (rr:Int) (hF:Slices.IndexFunc_Limpl_Rule_impl_Rule_M_AreRules_c1 a1 ax1=some rr) :
 Calls Tryz.prog 187 [u1,(.func (.func 141) #[] #[(ptr pb1 0)])].toArray w0 fun e w'=>∃v,e=.returned v∧Res w0 rr v w':=by
 refine Ax Tryz.func187 z z ?_
 have hC0:=A5 w0
 unfold Slices.IndexFunc_Limpl_Rule_impl_Rule_M_AreRules_c1 at hF
 refine Ac<|Ad z z<|Ab<|A6<|Ac<|Ae z z<|Bc B5 g1 z z<|Ae z z<|Ab<|be hF fun r1 hr1 hF=>Bi (fun l w=>.inl ()=r1∧l=[]∧Below w0.heap.size w0 w∧Ctx [] w0 w []) ?_ ?_
 ·refine AJ<|wS (l':=[(0,u1),(1,(.func (.func 141) #[] #[(ptr pb1 0)])),(7,(I (List.length a1:Int))),(8,(I 0))]) ⟨z,z,z,z,Aj⟩<|B2 (fun k l w=>∃x1:Int,l=[(0,u1),(1,(.func (.func 141) #[] #[(ptr pb1 0)])),(7,(I (List.length a1:Int))),(8,(I x1))]∧Below w0.heap.size w0 w∧Ctx [] w0 w []∧Slices.IndexFunc_Limpl_Rule_impl_Rule_M_AreRules_c1_l1 a1 ax1 k x1=some r1) FUEL ⟨0,z,(Al _ _),hC0,hr1⟩<|?_
  clear hr1
  rintro k1 _ w1 ⟨x1,rfl,hB1,hC1,hL1⟩
  cases k1 with
  | zero=>rw [Slices.IndexFunc_Limpl_Rule_impl_Rule_M_AreRules_c1_l1] at hL1; cases hL1
  | succ k1 =>
   rw [Slices.IndexFunc_Limpl_Rule_impl_Rule_M_AreRules_c1_l1] at hL1
   refine Ac<|Bv z z z<|Ab<|A6<|AE z (fun hc1=>?_) (fun hc1=>?_)
   ·replace hL1:=A7 hL1 hc1
    refine AF<|Ap<|A6<|AJ<|Ac<|Ae z z<|Ad z z<|Ab<|Ac<|Ae z z<|Ae z z<|Ae z z<|be hL1 fun x2 hx1 hL1=>AH B5 ty131 g1 hx1 z z z fun b1 o1 h1=>AI ty131 h1 hC1.keep z z fun v1 h2=>?_
    obtain ⟨v2,rfl,h3⟩:=Dc h2
    refine be hL1 fun x3 hr2 hL1=>BT (cap:=[(ptr pb1 0)]) Tryz.call141 z z z (c_M_AreRules_c1 x2 v2 (h3.now hC1.keep) pb1 ax1 (g2.now hC1.keep) x3 hr2) fun _ w2 hv1=>?_
    obtain ⟨rfl,hB2⟩:=BU hv1
    have hC2:=hC1.grow hB2
    refine Ab<|AE z (fun hc2=>?_) (fun hc2=>?_)
    ·replace hL1:=A7 hL1 hc2
     refine Ac<|Ae z z<|Ad z z<|Ab<|AL<|Bd<|Av<|Av<|Bd<|Av<|Av<|?_
     obtain rfl:=Aa hL1
     dsimp only at hF
     obtain rfl:=Aa hF
     exact A2 z z<|⟨_,z,B4 hC2 _⟩
    replace hL1:=A8 hL1 hc2
    exact AF<|AU<|Ap<|Bg<|Bn z z z<|Ae z z<|Ab<|Am (l':=[(0,u1),(1,(.func (.func 141) #[] #[(ptr pb1 0)])),(7,(I (List.length a1:Int))),(8,(I (w64 (x1+1))))]) ⟨z,z,z,z,Aj⟩<|⟨k1,A3 _,w64 (x1+1),z,((Ao hB1).then hB2).below,hC2,hL1⟩
   replace hL1:=A8 hL1 hc1
   refine B1 (A9 (A9 (Bk ?_)))
   obtain rfl:=Aa hL1
   exact Am (l':=[]) Aj<|⟨z,z,(Ao hB1).below,hC1⟩
 rintro l2 _ w3 hs2 ⟨rfl,rfl,hB3,hC3⟩
 try dsimp only at hF
 refine AY hs2 ?_
 clear hs2
 refine Ac<|Ad z z<|Ab<|AL<|?_
 obtain rfl:=Aa hF
 exact A2 z z<|⟨_,z,B4 hC3 _⟩
theorem c_Slices_ContainsFunc_Limpl_Rule_impl_Rule_M_AreRules_c1 {w0:World} (a1:(List (Int × Int × (List Int)))) (u1:Value) (g1:RO [] w0 u1 a1) (pb1:Nat) (ax1:(List Int)) (g2:ROAt [] w0 pb1 0 ax1) (rr:Bool) (hF:Slices.ContainsFunc_Limpl_Rule_impl_Rule_M_AreRules_c1 a1 ax1=some rr) :
 Calls Tryz.prog 140 [u1,(.func (.func 141) #[] #[(ptr pb1 0)])].toArray w0 fun e w'=>∃v,e=.returned v∧Res w0 rr v w':=by
 refine Ax Tryz.func140 z z ?_
 have hC0:=A5 w0
 unfold Slices.ContainsFunc_Limpl_Rule_impl_Rule_M_AreRules_c1 at hF
 refine Ac<|Ad z z<|Ab<|Ac<|Ae z z<|Ae z z<|be hF fun x1 hr1 hF=>ci Tryz.call187 z z (c_Slices_IndexFunc_Limpl_Rule_impl_Rule_M_AreRules_c1 a1 u1 (g1.now hC0.keep) pb1 ax1 (g2.now hC0.keep) x1 hr1) fun w1 hB1=>have hC1:=hC0.grow hB1;Cf z z z<|Ad z z<|Ab<|AL<|?_
 obtain rfl:=Aa hF
 exact A2 z z<|⟨_,z,AN hC1 _⟩
theorem c_M_AreRules {w0:World} (a1:(List Int)) (u1:Value) (g1:RO [] w0 u1 a1) (a2:(List (Int × Int × (List Int)))) (u2:Value) (g2:RO [] w0 u2 a2) (rr:Bool) (hF:M.AreRules a1 a2=some rr) :
 Calls Tryz.prog 83 [u1,u2].toArray w0 fun e w'=>∃v,e=.returned v∧Res w0 rr v w':=by
 refine Ax Tryz.func83 z z ?_
 have hC0:=A5 w0
 unfold M.AreRules at hF
 refine Ac<|Br (cs:=[u1]) hC0 (B7 g1) z z fun b1 w1 hC1 hB1 hN1=>Ad z z<|Ab<|be hF fun r1 hr1 hF=>BI (fun l w=>∃x1:Bool,x1=r1∧l=[(4,(.bool x1))]∧Below w1.heap.size w1 w∧Ctx [] w0 w []) ?_ ?_
 ·refine Bg<|Aq hC1 0 z z AM z z<|be hr1 fun x2 hr2 hr1=>cb CL z z (c_M_IsSchema a1 u1 (g1.now hC1.keep) x2 hr2) fun w3 hB3=>have hC3:=hC1.grow hB3;Ae z z<|Bz (fun hc1=>?_) (fun hc1=>?_)
  ·replace hr1:=A7 hr1 hc1
   refine Ah z z<|Ae z z<|Ah z z<|Bc B5 g2 z z<|Ah z z<|Cp z z z<|AW z z z<|Ae z z<|Bz (fun hc2=>?_) (fun hc2=>?_)
   ·replace hr1:=A7 hr1 hc2
    refine Ah z z<|Ae z z<|Ah z z<|BP z z<|be hr1 fun x3 hr3 hr1=>Ah z z<|cb Tryz.call140 z z (c_Slices_ContainsFunc_Limpl_Rule_impl_Rule_M_AreRules_c1 a2 u2 (g2.now hC3.keep) b1 a1 (hC3.boxAt 0 z (repw_slice (g1.now hC3.keep))) x3 hr3) fun w4 hB4=>have hC4:=hC3.grow hB4;Ah z z<|B3 z z<|AW z z z<|Ad z z<|Ab<|?_
    obtain rfl:=Aa hr1
    have hC5:=hC4.h0
    exact Am (l':=[(4,(.bool (!x3)))]) ⟨z,Aj⟩<|⟨(!x3),z,z,((Ao hB3).then hB4).below,hC5⟩
   replace hr1:=A8 hr1 hc2
   refine gs z z z z<|gs z z z z<|gs z z z z<|gs z z z z<|AZ z z z<|Ad z z<|Ab<|?_
   obtain rfl:=Aa hr1
   have hC6:=hC3.h0
   exact Am (l':=[(4,(.bool false))]) ⟨z,Aj⟩<|⟨false,z,z,(Ao hB3).below,hC6⟩
  replace hr1:=A8 hr1 hc1
  refine gs z z z z<|gs z z z z<|gs z z z z<|AZ z z z<|Ae z z<|gs z z z z<|gs z z z z<|gs z z z z<|gs z z z z<|AZ z z z<|Ad z z<|Ab<|?_
  obtain rfl:=Aa hr1
  have hC7:=hC3.h0
  exact Am (l':=[(4,(.bool false))]) ⟨z,Aj⟩<|⟨false,z,z,(Ao hB3).below,hC7⟩
 rintro _ w2 ⟨x1,rfl,rfl,hB2,hC2⟩
 try dsimp only at hF
 refine AL ?_
 obtain rfl:=Aa hF
 exact A2 z z<|⟨_,z,AN hC2 _⟩
theorem c_M_Rule_implied {w0:World} (a1:(Int × Int × (List Int))) (u1:Value) (g1:RO [] w0 u1 a1.2.2) (a2:(Int × (List Int))) (u2:Value) (g2:RO [] w0 u2 a2.2) (rr:((Int × (List Int)) × Bool)) (hF:M.Rule_implied a1 a2=some rr) :
 Calls Tryz.prog 143 [(.agg #[(I a1.1),(I a1.2.1),u1]),(.agg #[(I a2.1),u2])].toArray w0 fun e w'=>∃v,e=.returned v∧Res2 w0 rr.1 rr.2 v w':=by
 refine Ax Tryz.func143 z z ?_
 have hC0:=A5 w0
 unfold M.Rule_implied at hF
 refine Ac<|Br (cs:=[(I a1.1),(I a1.2.1),u1]) hC0 z z z fun b1 w1 hC1 hB1 hN1=>Br (cs:=[(I a2.1),u2]) hC1 z z z fun b2 w2 hC2 hB2 hN2=>Bw hC2 zero88 z z fun b3 w3 hC3 hB3 hN3=>Ad z z<|Ab<|A6<|Ac<|fd A4 Ay z z z z<|Aq hC3 1 z z AR z z<|fd Bb Ay z z z z<|Aq hC3 2 z z AR z z<|Ch z z z<|Ab<|AE z (fun hc1=>?_) (fun hc1=>?_)
 ·replace hF:=A7 hF hc1
  refine Ac<|BH (vs:=[]) z z z built88<|AA (cs':=[(I 0),(.slice none 0 0)]) (new:=[(I 0),(.slice none 0 0)]) hC3 0 z z (fac z<|fac z<|fa0) z AP z z fun w4 hC4 hKp1=>?_
  try dsimp only [List.set] at hC4
  have hk1:=AO (((Ao hB1).then hB2).then hB3) (AS ((Ao hB1).then hB2).size hN3) hKp1
  have hk2:=AO ((Ao hB2).then hB3) (AS (Ao hB2).size hN3) hKp1
  have hk3:=AO (Ao hB3) hN3 hKp1
  refine Ad z z<|Ab<|AL<|Av<|?_
  obtain rfl:=Aa hF
  refine fn_retG2 z (rv_cell_agg (cs':=[(I 0),(.slice none 0 0)]) hC4 (i:=0) z z z Bl AP z) (rv_tmp z) ?_
  have hC5:=hC4.triv (C2 (false))
  have hC7:=hC5.triv (nil_val (α:=Int))
  have hC6:=Cc 0 (.slice none 0 0) ([]) hC7
  exact ⟨_,z,res2_of hC6⟩
 replace hF:=A8 hF hc1
 refine AF<|Ap<|Ac<|fd Bb Ay z z z z<|Aq hC3 2 z z AR z z<|BH (vs:=[(0,(I a1.2.1))]) z z z (built88_0 z)<|Bw hC3 zero88 z z fun b4 w5 hC8 hB4 hN4=>AA (cs':=[(I a1.2.1),(.slice none 0 0)]) (new:=[(I a1.2.1),(.slice none 0 0)]) hC8 0 z z (fac z<|fac z<|fa0) z AP z z fun w6 hC9 hKp2=>?_
 try dsimp only [List.set] at hC9
 have hk4:=AO ((((Ao hB1).then hB2).then hB3).then hB4) (AS (((Ao hB1).then hB2).then hB3).size hN4) hKp2
 have hk5:=AO (((Ao hB2).then hB3).then hB4) (AS ((Ao hB2).then hB3).size hN4) hKp2
 have hk6:=AO ((Ao hB3).then hB4) (AS (Ao hB3).size hN4) hKp2
 have hk7:=AO (Ao hB4) hN4 hKp2
 refine Ab<|A6<|Ac<|fd Bb Az z z z z<|Aq hC9 3 z z AM z z<|Bc Ak g1 z z<|Ae z z<|Ab<|be hF fun r1 hr1 hF=>Bi (fun l w=>∃x4:Int,∃v2:Value,∃x5:(List Int),(x4,x5)=r1∧l=[(4,(ptr b3 0)),(6,(ptr b4 0))]∧Ctx [] w0 w [Af v2 (x5:(List Int)),Ag b4 [(I x4),v2],Ag b3 [(I 0),(.slice none 0 0)]]) ?_ ?_
 ·refine AJ ?_
  have hC30:=hC9.triv (nil_val (α:=Int))
  have hC31:=hC30.f3
  have hC32:=hC31.f3
  have hC33:=hC32.f3
  have hC34:=hC33.f3
  have hC35:=hC34.h4
  refine wS (l':=[(3,(ptr b2 0)),(4,(ptr b3 0)),(6,(ptr b4 0)),(19,u1),(20,(I (List.length a1.2.2:Int))),(21,(I 0))]) ⟨z,z,z,z,z,z,Aj⟩<|B2 (fun k l w=>∃x1:Int,∃v1:Value,∃x2:(List Int),∃x3:Int,l=[(3,(ptr b2 0)),(4,(ptr b3 0)),(6,(ptr b4 0)),(19,u1),(20,(I (List.length a1.2.2:Int))),(21,(I x3))]∧Ctx [] w0 w [Af v1 (x2:(List Int)),Ag b4 [(I x1),v1],Ag b3 [(I 0),(.slice none 0 0)],Ag b2 [(I a2.1),u2]]∧M.Rule_implied_l1 a1 a2 k x1 x2 x3=some r1) FUEL ⟨a1.2.1,(.slice none 0 0),[],0,z,hC35,hr1⟩<|?_
  clear hr1
  rintro k1 _ w7 ⟨x1,v1,x2,x3,rfl,hC10,hL1⟩
  cases k1 with
  | zero=>rw [M.Rule_implied_l1] at hL1; cases hL1
  | succ k1 =>
   rw [M.Rule_implied_l1] at hL1
   refine Ac<|Bv z z z<|Ab<|A6<|AE z (fun hc2=>?_) (fun hc2=>?_)
   ·replace hL1:=A7 hL1 hc2
    refine AF<|Ap<|A6<|AJ<|Ac<|be hL1 fun x6 hx1 hL1=>AH Ak ty3 g1 hx1 z z z fun b5 o1 h1=>AI ty3 h1 hC10.keep z z fun v3 h2=>?_
    obtain rfl:=B8 h2
    refine Ad z z<|Ab<|W_drawn 11 z hmix fun w9 hB6=>have hC11:=hC10.grow hB6;tf 0 A4 Az z z z z z<|tf 2 A4 Az z z z z z<|tm 4 z z z<|be hL1 fun x7 hx2 hL1=>wAS (l':=[(3,(ptr b2 0)),(4,(ptr b3 0)),(6,(ptr b4 0)),(8,(I x6)),(19,u1),(20,(I (List.length a1.2.2:Int))),(21,(I x3)),(22,(.bool (decide (x3 < (List.length a1.2.2:Int))))),(23,(ptr b5 o1)),(24,(I x6)),(25,(ptr b4 1)),(27,(ptr b2 1)),(29,(I x6))]) ⟨z,z,z,z,z,z,z,z,z,z,z,z,z,Aj⟩<|Bq [⟨1,[],fun vs=>Ba v1,[]⟩,⟨3,[],fun vs=>Ba u2,[]⟩,⟨5,[],fun vs=>BZ [] w0 x7,[]⟩,⟨6,[],fun vs=>Ba (I x7),[]⟩,⟨7,[],fun vs=>CU ([x7]:(List Int)),[]⟩] [[],[],[3],[5],[6]] 3 z (by kernel_rfl) (by kernel_rfl) z ?_ ?_
    ·refine An z ?_ ?_
     ·intro w11 hB8
      refine At<|⟨_,z,?_⟩
      exact Aq (hC11.grow hB8) 1 z z AM z z<|Ab<|Aw (Al _ _) z z ⟨z,z⟩
     refine An z ?_ ?_
     ·intro w11 hB8
      refine At<|⟨_,z,?_⟩
      exact Aq (hC11.grow hB8) 3 z z AM z z<|Ab<|Aw (Al _ _) z z ⟨z,z⟩
     refine An z ?_ ?_
     ·intro w11 hB8
      refine AD z z z ?_
      rintro _ _ ⟨rfl,rfl⟩ _
      refine At<|⟨_,z,?_⟩
      exact AH Ak ty3 g2 hx2 z z z fun b6 o2 h3=>Ab<|Aw (Al _ _) z z ⟨z,_,_,z,h3⟩
     refine An z ?_ ?_
     ·intro w11 hB8
      refine AD z z z ?_
      rintro _ _ ⟨rfl,b6,o2,rfl,h3⟩ _
      refine At<|⟨_,z,?_⟩
      refine AI ty3 h3 (hC11.keep.then hB8) z z (fun v4 h4=>?_)
      obtain rfl:=B8 h4
      exact Ab<|Aw (Al _ _) z z ⟨z,z⟩
     refine An z ?_ ?_
     ·intro w11 hB8
      refine AD z z z ?_
      rintro _ _ ⟨rfl,rfl⟩ _
      refine At<|⟨_,z,?_⟩
      refine AC (vs:=[(I x7)]) (A5 w11) Ak ty3 z z z z (fac z<|fa0) z z (fun b7 w10 hC12 hB7=>?_)
      have hC13:=hC12.row0 (α:=Int)
      have hC14:=hC13.triv (Bx (x7))
      have hC15:=hC14.row1
      have hC16:=hC15.front 1 z
      dsimp only [List.eraseIdx,List.cons_append,List.nil_append,List.append_nil] at hC16
      have hC17:Ctx [] w11 w10 (Af (.slice (some ⟨b7,0,none⟩) 1 1) ([x7]:List Int)::[]):=hC16.rowOwn (by simp [maxLen])
      exact Ab<|Da hC17 z z (fun F h=>h)
     exact Bj
    intro w12 hB9
    refine Ar z z z ?_
    rintro _ _ ⟨rfl,rfl⟩
    refine Ar z z z ?_
    rintro _ _ ⟨rfl,rfl⟩
    refine Ar z z z ?_
    rintro _ _ ⟨rfl,b6,o2,rfl,h3⟩
    refine Ar z z z ?_
    rintro _ _ ⟨rfl,rfl⟩
    refine Ar z z z fun v5 F1 hv1=>Bt fun hn1 hb1=>?_
    have hC18:=hC11.pushL hB9 (Bs:=[Af v5 ([x7]:(List Int))]) (Fs:=[F1]) ⟨F1,_,z,hv1,z⟩ (by simpa using hn1) (fun b h=>(hb1 b (by simpa using h)).1)
    refine be hL1 fun x8 hx3 hL1=>oe 8 z<|BF (α:=Int) hC18 1 z (hC18.ro 0 z) (A1 _ _) Ak ty3 z hx3 z z z fun v6 w13 hC19=>?_
    try dsimp only [List.set] at hC19
    refine Ab<|tf 9 A4 Az z z z z z<|oe 10 z<|B9 (cs':=[(I x1),v6]) hC19 2 z z (B0 (hC19.ro 1 z)) z Az z z fun w14 hC20 hKp3=>?_
    try dsimp only [List.set] at hC20
    exact Ab<|dn<|AU<|Ap<|Bg<|Bn z z z<|Ae z z<|Ab<|have hC21:=hC20.f4;have hC22:=hC21.f4;have hC23:=hC22.f4;have hC24:=hC23.f4;have hC25:=hC24.h4;Am (l':=[(3,(ptr b2 0)),(4,(ptr b3 0)),(6,(ptr b4 0)),(19,u1),(20,(I (List.length a1.2.2:Int))),(21,(I (w64 (x3+1))))]) ⟨z,z,z,z,z,z,Aj⟩<|⟨k1,A3 _,x1,v6,x8,w64 (x3+1),z,hC25,hL1⟩
   replace hL1:=A8 hL1 hc2
   refine B1 (A9 (A9 (Bk ?_)))
   obtain rfl:=Aa hL1
   have hC26:=hC10.f2
   have hC27:=hC26.f2
   have hC28:=hC27.f2
   have hC29:=hC28.h3
   exact Am (l':=[(4,(ptr b3 0)),(6,(ptr b4 0))]) ⟨z,z,Aj⟩<|⟨x1,v1,x2,z,z,hC29⟩
 rintro l2 _ w15 hs2 ⟨x4,v2,x5,rfl,rfl,hC36⟩
 try dsimp only at hF
 refine AY hs2 ?_
 clear hs2
 refine Ac<|Au [(I x4),v2] hC36 1 z z z Bl AP z z<|AA (cs':=[(I x4),v2]) (new:=[(I x4),v2]) hC36 2 z z (fac z<|fac (B0 (hC36.ro 0 z))<|fa0) z AP z z fun w16 hC37 hKp4=>?_
 try dsimp only [List.set] at hC37
 refine Ad z z<|Ab<|AL<|?_
 obtain rfl:=Aa hF
 refine fn_retG2 z (rv_cell_agg (cs':=[(I x4),v2]) hC37 (i:=2) z z z Bl AP z) (rv_tmp z) ?_
 have hC38:=hC37.triv (C2 (true))
 have hC40:=hC38.f1
 have hC39:=Cc x4 v2 x5 hC40
 exact ⟨_,z,res2_of hC39⟩
theorem c_M_missing {w0:World} (a1:(List (Int × Int × (List Int)))) (u1:Value) (g1:RO [] w0 u1 a1) (a2:(List (Int × (List Int)))) (u2:Value) (g2:RO [] w0 u2 a2) (rr:(List (Int × (List Int)))) (hF:M.missing a1 a2=some rr) :
 Calls Tryz.prog 85 [u1,u2].toArray w0 fun e w'=>∃v,e=.returned v∧Res w0 rr v w':=by
 refine Ax Tryz.func85 z z ?_
 have hC0:=A5 w0
 unfold M.missing at hF
 refine Ac<|Ad z z<|Ab<|Ac<|AC (vs:=[]) hC0 Ai ty88 z z z z (by simp) z z fun b1 w1 hC1 hB1=>?_
 have hC2:=hC1.row0 (α:=(Int × (List Int)))
 have hC3:=hC2.front 1 z
 dsimp only [List.eraseIdx,List.cons_append,List.nil_append,List.append_nil] at hC3
 have hC4:Ctx [] w0 w1 (Af (.slice (some ⟨b1,0,none⟩) 0 0) (([]:List (Int × (List Int))):List (Int × (List Int)))::[]):=hC3.rowOwn (by simp [maxLen])
 refine Ad z z<|Ab<|A6<|Ac<|Ae z z<|Bc Ai g2 z z<|Ae z z<|Ab<|be hF fun r1 hr1 hF=>Bi (fun l w=>∃v2:Value,∃x3:(List (Int × (List Int))),x3=r1∧l=[(5,v2)]∧Ctx [] w0 w [Af v2 (x3:(List (Int × (List Int))))]) ?_ ?_
 ·refine AJ<|wS (l':=[(0,u1),(1,u2),(5,(.slice (some ⟨b1,0,none⟩) 0 0)),(13,u2),(14,(I (List.length a2:Int))),(15,(I 0))]) ⟨z,z,z,z,z,z,Aj⟩<|B2 (fun k l w=>∃v1:Value,∃x1:(List (Int × (List Int))),∃x2:Int,l=[(0,u1),(1,u2),(5,v1),(13,u2),(14,(I (List.length a2:Int))),(15,(I x2))]∧Ctx [] w0 w [Af v1 (x1:(List (Int × (List Int))))]∧M.missing_l1 a2 a1 k x1 x2=some r1) FUEL ⟨(.slice (some ⟨b1,0,none⟩) 0 0),([]:List (Int × (List Int))),0,z,hC4,hr1⟩<|?_
  clear hr1
  rintro k1 _ w2 ⟨v1,x1,x2,rfl,hC5,hL1⟩
  cases k1 with
  | zero=>rw [M.missing_l1] at hL1; cases hL1
  | succ k1 =>
   rw [M.missing_l1] at hL1
   refine Ac<|Bv z z z<|Ab<|A6<|AE z (fun hc1=>?_) (fun hc1=>?_)
   ·replace hL1:=A7 hL1 hc1
    refine AF<|Ap<|A6<|AJ<|Ac<|be hL1 fun x4 hx1 hL1=>AH Ai ty88 g2 hx1 z z z fun b2 o1 h1=>AI ty88 h1 hC5.keep z z fun v3 h2=>?_
    obtain ⟨v4,rfl,h3⟩:=BD h2
    refine Bw hC5 zero88 z z fun b3 w3 hC6 hB3 hN1=>AA (cs':=[(I x4.1),v4]) (new:=[(I x4.1),v4]) hC6 0 z z (fac z<|fac (B0 h3)<|fa0) z AP z z fun w4 hC7 hKp1=>?_
    try dsimp only [List.set] at hC7
    have hk1:=AO (Ao hB3) hN1 hKp1
    refine Ab<|Ac<|Ae z z<|Bc B5 g1 z z<|Ae z z<|Ab<|be hL1 fun r2 hr2 hL1=>Bi (fun l w=>∃v6:Value,∃x7:(List (Int × (List Int))),x7=r2∧l=[(0,u1),(1,u2),(5,v6),(13,u2),(14,(I (List.length a2:Int))),(15,(I x2))]∧Ctx [] w0 w [Af v6 (x7:(List (Int × (List Int))))]) ?_ ?_
    ·refine AJ<|wS (l':=[(0,u1),(1,u2),(5,v1),(7,(ptr b3 0)),(13,u2),(14,(I (List.length a2:Int))),(15,(I x2)),(19,u1),(20,(I (List.length a1:Int))),(21,(I 0))]) ⟨z,z,z,z,z,z,z,z,z,z,Aj⟩<|B2 (fun k l w=>∃v5:Value,∃x5:(List (Int × (List Int))),∃x6:Int,l=[(0,u1),(1,u2),(5,v5),(7,(ptr b3 0)),(13,u2),(14,(I (List.length a2:Int))),(15,(I x2)),(19,u1),(20,(I (List.length a1:Int))),(21,(I x6))]∧Ctx [] w0 w [Ag b3 [(I x4.1),v4],Af v5 (x5:(List (Int × (List Int))))]∧M.missing_l2 a1 x4 a2 k x5 x6=some r2) FUEL ⟨v1,x1,0,z,hC7,hr2⟩<|?_
     clear hr2
     rintro k2 _ w5 ⟨v5,x5,x6,rfl,hC8,hL2⟩
     cases k2 with
     | zero=>rw [M.missing_l2] at hL2; cases hL2
     | succ k2 =>
      rw [M.missing_l2] at hL2
      refine Ac<|Bv z z z<|Ab<|A6<|AE z (fun hc2=>?_) (fun hc2=>?_)
      ·replace hL2:=A7 hL2 hc2
       refine AF<|Ap<|A6<|AJ<|Ac<|be hL2 fun x8 hx2 hL2=>AH B5 ty131 g1 hx2 z z z fun b4 o2 h4=>AI ty131 h4 hC8.keep z z fun v7 h5=>?_
       obtain ⟨v8,rfl,h6⟩:=Dc h5
       refine Bw hC8 zero131 z z fun b5 w6 hC9 hB5 hN2=>AA (cs':=[(I x8.1),(I x8.2.1),v8]) (new:=[(I x8.1),(I x8.2.1),v8]) hC9 0 z z (fac z<|fac z<|fac (B0 h6)<|fa0) z Cs z z fun w7 hC10 hKp2=>?_
       try dsimp only [List.set] at hC10
       have hk2:=AO (Ao hB5) hN2 hKp2
       refine Ab<|Ac<|Au [(I x8.1),(I x8.2.1),v8] hC10 0 z z z Tryz.isAgg131 Cs z z<|Au [(I x4.1),v4] hC10 1 z z z Bl AP z z<|be hL2 fun x9 hr3 hL2=>AG Tryz.call143 z z (c_M_Rule_implied (x8.1,x8.2.1,x8.2.2) v8 (h6.now hC10.keep) (x4.1,x4.2) v4 (h3.now hC10.keep) x9 hr3)<|?_
       rintro _ w9 ⟨hB6,v9,v10,F1,F2,rfl,hv1,hv2,hn1,hb1⟩
       obtain ⟨rfl,rfl⟩:=val_bool hv2
       have hC11:=hC10.pushL hB6 (Bs:=[Af v9 x9.1]) (Fs:=[F1]) ⟨F1,_,z,hv1,z⟩ (by simpa using hn1) (fun b h=>hb1 b (by simpa using h))
       obtain ⟨v11,rfl,hC12⟩:=st88_own hC11
       refine Ae z z<|Bh z z z<|Bh z z z<|Bw hC12 zero88 z z fun b6 w10 hC13 hB7 hN3=>AA (cs':=[(I x9.1.1),v11]) (new:=[(I x9.1.1),v11]) hC13 0 z z (fac z<|fac (B0 (hC13.ro 1 z))<|fa0) z AP z z fun w11 hC14 hKp3=>?_
       try dsimp only [List.set] at hC14
       have hk3:=AO ((hk2.then hB6).then hB7) (AS (hk2.then hB6).size hN3) hKp3
       have hk4:=AO ((Ao hB6).then hB7) (AS (Ao hB6).size hN3) hKp3
       have hk5:=AO (Ao hB7) hN3 hKp3
       refine Ad z z<|Ab<|be hL2 fun r3 hr4 hL2=>BI (fun l w=>∃x10:Bool,x10=r3∧l=[(0,u1),(1,u2),(5,v5),(7,(ptr b3 0)),(10,(ptr b6 0)),(13,u2),(14,(I (List.length a2:Int))),(15,(I x2)),(19,u1),(20,(I (List.length a1:Int))),(21,(I x6)),(37,(.bool x10))]∧Below w11.heap.size w11 w∧Ctx [] w0 w [Ag b6 [(I x9.1.1),v11],Af v11 (x9.1.2:(List Int)),Ag b3 [(I x4.1),v4],Af v5 (x5:(List (Int × (List Int))))]) ?_ ?_
       ·refine Bg<|Ae z z<|Ae z z<|Bz (fun hc3=>?_) (fun hc3=>?_)
        ·replace hr4:=A7 hr4 hc3
         refine Ah z z<|Ae z z<|Ah z z<|Au [(I x9.1.1),v11] hC14 0 z z z Bl AP z z<|be hr4 fun x11 hr5 hr4=>Ah z z<|cb CP z z (c_M_HasFact a2 u2 (g2.now hC14.keep) (x9.1.1,x9.1.2) v11 ((hC14.ro 1 z).now (A1 _ _)) x11 hr5) fun w13 hB9=>have hC16:=hC14.grow hB9;Ah z z<|B3 z z<|AW z z z<|Ab<|?_
         obtain rfl:=Aa hr4
         have hC17:=hC16.f4
         have hC18:=hC17.f4
         have hC19:=hC18.f3
         have hC20:=hC19.f3
         have hC21:=hC20.h4
         exact Am (l':=[(0,u1),(1,u2),(5,v5),(7,(ptr b3 0)),(10,(ptr b6 0)),(13,u2),(14,(I (List.length a2:Int))),(15,(I x2)),(19,u1),(20,(I (List.length a1:Int))),(21,(I x6)),(37,(.bool (!x11)))]) ⟨z,z,z,z,z,z,z,z,z,z,z,z,Aj⟩<|⟨(!x11),z,z,(Ao hB9).below,hC21⟩
        replace hr4:=A8 hr4 hc3
        refine gs z z z z<|gs z z z z<|gs z z z z<|gs z z z z<|AZ z z z<|Ab<|?_
        obtain rfl:=Aa hr4
        have hC22:=hC14.f4
        have hC23:=hC22.f4
        have hC24:=hC23.f3
        have hC25:=hC24.f3
        have hC26:=hC25.h4
        exact Am (l':=[(0,u1),(1,u2),(5,v5),(7,(ptr b3 0)),(10,(ptr b6 0)),(13,u2),(14,(I (List.length a2:Int))),(15,(I x2)),(19,u1),(20,(I (List.length a1:Int))),(21,(I x6)),(37,(.bool false))]) ⟨z,z,z,z,z,z,z,z,z,z,z,z,Aj⟩<|⟨false,z,z,(Al _ _),hC26⟩
       rintro _ w12 ⟨x10,rfl,rfl,hB8,hC15⟩
       try dsimp only at hL2
       refine be hL2 fun r4 hr6 hL2=>Bi (fun l w=>∃v12:Value,∃x12:(List (Int × (List Int))),x12=r4∧l=[(0,u1),(1,u2),(5,v12),(7,(ptr b3 0)),(13,u2),(14,(I (List.length a2:Int))),(15,(I x2)),(19,u1),(20,(I (List.length a1:Int))),(21,(I x6))]∧Ctx [] w0 w [Ag b3 [(I x4.1),v4],Af v12 (x12:(List (Int × (List Int))))]) ?_ ?_
       ·refine AE z (fun hc4=>?_) (fun hc4=>?_)
        ·replace hr6:=A7 hr6 hc4
         refine Bg<|Ae z z<|Au [(I x9.1.1),v11] hC15 0 z z z Bl AP z z<|be hr6 fun x13 hr7 hr6=>have hC28:=hC15.f3;?_
         obtain ⟨Fs1,hH1,hn2,hF1,hO1,hb2⟩:=AX (As:=[Ag b6 [(I x9.1.1),v11],Af v11 (x9.1.2:(List Int)),Ag b3 [(I x4.1),v4]]) [Af v5 (x5:(List (Int × (List Int))))] hC28
         refine AG Tryz.call68 z z (c_M_added x5 v5 (x9.1.1,x9.1.2) v11 (hO1 1 _ _ _ z) hH1 hn2 x13 hr7) ?_
         rintro v13 w15 ⟨_,rfl,hq3⟩
         have hC29:Ctx [] w0 w15 [Af v13 (x13:(List (Int × (List Int)))),Ag b6 [(I x9.1.1),v11],Af v11 (x9.1.2:(List Int)),Ag b3 [(I x4.1),v4]]:=hb2 _ _ hq3
         refine Ad z z<|Ab<|?_
         obtain rfl:=Aa hr6
         have hC30:=hC29.f3
         have hC31:=hC30.h2
         exact Am (l':=[(0,u1),(1,u2),(5,v13),(7,(ptr b3 0)),(13,u2),(14,(I (List.length a2:Int))),(15,(I x2)),(19,u1),(20,(I (List.length a1:Int))),(21,(I x6))]) ⟨z,z,z,z,z,z,z,z,z,z,Aj⟩<|⟨v13,x13,z,z,hC31⟩
        replace hr6:=A8 hr6 hc4
        refine AF ?_
        obtain rfl:=Aa hr6
        have hC32:=hC15.f3
        have hC33:=hC32.f3
        have hC34:=hC33.h2
        exact Am (l':=[(0,u1),(1,u2),(5,v5),(7,(ptr b3 0)),(13,u2),(14,(I (List.length a2:Int))),(15,(I x2)),(19,u1),(20,(I (List.length a1:Int))),(21,(I x6))]) ⟨z,z,z,z,z,z,z,z,z,z,Aj⟩<|⟨v5,x5,z,z,hC34⟩
       rintro l4 _ w14 hs4 ⟨v12,x12,rfl,rfl,hC27⟩
       try dsimp only at hL2
       refine AU<|AY hs4<|?_
       clear hs4
       exact Bg<|Bn z z z<|Ae z z<|Ab<|Am (l':=[(0,u1),(1,u2),(5,v12),(7,(ptr b3 0)),(13,u2),(14,(I (List.length a2:Int))),(15,(I x2)),(19,u1),(20,(I (List.length a1:Int))),(21,(I (w64 (x6+1))))]) ⟨z,z,z,z,z,z,z,z,z,z,Aj⟩<|⟨k2,A3 _,v12,x12,w64 (x6+1),z,hC27,hL2⟩
      replace hL2:=A8 hL2 hc2
      refine B1 (A9 (A9 (Bk ?_)))
      obtain rfl:=Aa hL2
      have hC35:=hC8.f1
      have hC36:=hC35.h1
      exact Am (l':=[(0,u1),(1,u2),(5,v5),(13,u2),(14,(I (List.length a2:Int))),(15,(I x2))]) ⟨z,z,z,z,z,z,Aj⟩<|⟨v5,x5,z,z,hC36⟩
    rintro l5 _ w16 hs5 ⟨v6,x7,rfl,rfl,hC37⟩
    try dsimp only at hL1
    refine AU<|AY hs5<|?_
    clear hs5
    exact Bg<|Bn z z z<|Ae z z<|Ab<|Am (l':=[(0,u1),(1,u2),(5,v6),(13,u2),(14,(I (List.length a2:Int))),(15,(I (w64 (x2+1))))]) ⟨z,z,z,z,z,z,Aj⟩<|⟨k1,A3 _,v6,x7,w64 (x2+1),z,hC37,hL1⟩
   replace hL1:=A8 hL1 hc1
   refine B1 (A9 (A9 (Bk ?_)))
   obtain rfl:=Aa hL1
   exact Am (l':=[(5,v1)]) ⟨z,Aj⟩<|⟨v1,x1,z,z,hC5⟩
 rintro l6 _ w17 hs6 ⟨v2,x3,rfl,rfl,hC38⟩
 try dsimp only at hF
 refine AY hs6 ?_
 clear hs6
 refine Ac<|Ae z z<|Ad z z<|Ab<|AL<|?_
 obtain rfl:=Aa hF
 exact A2 z z<|⟨_,z,BY hC38 0 z⟩
theorem c_M_BrokenRules_c1_c1 {w0:World} (a1:((Int × (List Int)) × (List (Int × (List Int))))) (u1:Value) (g1:RO [] w0 u1 a1.1.2) (u2:Value) (g2:RO [] w0 u2 a1.2) (pb1:Nat) (ax1:(List (Int × (List Int) × Int × Int × Int))) (g3:ROAt [] w0 pb1 0 ax1) (pb2:Nat) (ax2:(Int × (List Int))) (g4:ROAt [] w0 pb2 0 ax2) (rr:Bool) (hF:M.BrokenRules_c1_c1 a1 ax1 ax2=some rr) :
 Calls Tryz.prog 87 [(.agg #[(I a1.1.1),u1,u2]),(ptr pb1 0),(ptr pb2 0)].toArray w0 fun e w'=>∃v,e=.returned v∧Res w0 rr v w':=by
 refine Ax Tryz.func87 z z ?_
 have hC0:=A5 w0
 unfold M.BrokenRules_c1_c1 at hF
 refine Ac<|Br (cs:=[(I a1.1.1),u1,u2]) hC0 z z z fun b1 w1 hC1 hB1 hN1=>Ad z z<|Ab<|Ac<|Au [(I a1.1.1),u1,u2] hC1 0 z z z Bm AT z z<|AI ty25 g3 hC1.keep z z fun v1 h1=>AI ty88 g4 hC1.keep z z fun v2 h2=>?_
 obtain ⟨v3,rfl,h3⟩:=BD h2
 refine be hF fun x1 hr1 hF=>cb Tryz.call88 z z (c_M_Told_denies ((a1.1.1,a1.1.2),a1.2) u1 (g1.now hC1.keep) u2 (g2.now hC1.keep) ax1 v1 (h1.now hC1.keep) ax2 v3 (h3.now hC1.keep) x1 hr1) fun w2 hB2=>have hC2:=hC1.grow hB2;Ad z z<|Ab<|AL<|?_
 obtain rfl:=Aa hF
 exact A2 z z<|⟨_,z,AN hC2 _⟩
theorem c_Slices_IndexFunc_Limpl_Told_impl_Told_M_BrokenRules_c1_c1 {w0:World} (a1:(List ((Int × (List Int)) × (List (Int × (List Int)))))) (u1:Value) (g1:RO [] w0 u1 a1) (pb1:Nat) (ax1:(List (Int × (List Int) × Int × Int × Int))) (g2:ROAt [] w0 pb1 0 ax1) (pb2:Nat) (ax2:(Int × (List Int))) (g3:ROAt [] w0 pb2 0 ax2) (rr:Int) (hF:Slices.IndexFunc_Limpl_Told_impl_Told_M_BrokenRules_c1_c1 a1 ax1 ax2=some rr) :
 Calls Tryz.prog 66 [u1,(.func (.func 87) #[] #[(ptr pb1 0),(ptr pb2 0)])].toArray w0 fun e w'=>∃v,e=.returned v∧Res w0 rr v w':=by
 refine Ax Tryz.func66 z z ?_
 have hC0:=A5 w0
 unfold Slices.IndexFunc_Limpl_Told_impl_Told_M_BrokenRules_c1_c1 at hF
 refine Ac<|Ad z z<|Ab<|A6<|Ac<|Ae z z<|Bc A0 g1 z z<|Ae z z<|Ab<|be hF fun r1 hr1 hF=>Bi (fun l w=>.inl ()=r1∧l=[]∧Below w0.heap.size w0 w∧Ctx [] w0 w []) ?_ ?_
 ·refine AJ<|wS (l':=[(0,u1),(1,(.func (.func 87) #[] #[(ptr pb1 0),(ptr pb2 0)])),(7,(I (List.length a1:Int))),(8,(I 0))]) ⟨z,z,z,z,Aj⟩<|B2 (fun k l w=>∃x1:Int,l=[(0,u1),(1,(.func (.func 87) #[] #[(ptr pb1 0),(ptr pb2 0)])),(7,(I (List.length a1:Int))),(8,(I x1))]∧Below w0.heap.size w0 w∧Ctx [] w0 w []∧Slices.IndexFunc_Limpl_Told_impl_Told_M_BrokenRules_c1_c1_l1 a1 ax1 ax2 k x1=some r1) FUEL ⟨0,z,(Al _ _),hC0,hr1⟩<|?_
  clear hr1
  rintro k1 _ w1 ⟨x1,rfl,hB1,hC1,hL1⟩
  cases k1 with
  | zero=>rw [Slices.IndexFunc_Limpl_Told_impl_Told_M_BrokenRules_c1_c1_l1] at hL1; cases hL1
  | succ k1 =>
   rw [Slices.IndexFunc_Limpl_Told_impl_Told_M_BrokenRules_c1_c1_l1] at hL1
   refine Ac<|Bv z z z<|Ab<|A6<|AE z (fun hc1=>?_) (fun hc1=>?_)
   ·replace hL1:=A7 hL1 hc1
    refine AF<|Ap<|A6<|AJ<|Ac<|Ae z z<|Ad z z<|Ab<|Ac<|Ae z z<|Ae z z<|Ae z z<|be hL1 fun x2 hx1 hL1=>AH A0 ty46 g1 hx1 z z z fun b1 o1 h1=>AI ty46 h1 hC1.keep z z fun v1 h2=>?_
    obtain ⟨v2,v3,rfl,h3,h4⟩:=Cr h2
    refine be hL1 fun x3 hr2 hL1=>BT (cap:=[(ptr pb1 0),(ptr pb2 0)]) Tryz.call87 z z z (c_M_BrokenRules_c1_c1 x2 v2 (h3.now hC1.keep) v3 (h4.now hC1.keep) pb1 ax1 (g2.now hC1.keep) pb2 ax2 (g3.now hC1.keep) x3 hr2) fun _ w2 hv1=>?_
    obtain ⟨rfl,hB2⟩:=BU hv1
    have hC2:=hC1.grow hB2
    refine Ab<|AE z (fun hc2=>?_) (fun hc2=>?_)
    ·replace hL1:=A7 hL1 hc2
     refine Ac<|Ae z z<|Ad z z<|Ab<|AL<|Bd<|Av<|Av<|Bd<|Av<|Av<|?_
     obtain rfl:=Aa hL1
     dsimp only at hF
     obtain rfl:=Aa hF
     exact A2 z z<|⟨_,z,B4 hC2 _⟩
    replace hL1:=A8 hL1 hc2
    exact AF<|AU<|Ap<|Bg<|Bn z z z<|Ae z z<|Ab<|Am (l':=[(0,u1),(1,(.func (.func 87) #[] #[(ptr pb1 0),(ptr pb2 0)])),(7,(I (List.length a1:Int))),(8,(I (w64 (x1+1))))]) ⟨z,z,z,z,Aj⟩<|⟨k1,A3 _,w64 (x1+1),z,((Ao hB1).then hB2).below,hC2,hL1⟩
   replace hL1:=A8 hL1 hc1
   refine B1 (A9 (A9 (Bk ?_)))
   obtain rfl:=Aa hL1
   exact Am (l':=[]) Aj<|⟨z,z,(Ao hB1).below,hC1⟩
 rintro l2 _ w3 hs2 ⟨rfl,rfl,hB3,hC3⟩
 try dsimp only at hF
 refine AY hs2 ?_
 clear hs2
 refine Ac<|Ad z z<|Ab<|AL<|?_
 obtain rfl:=Aa hF
 exact A2 z z<|⟨_,z,B4 hC3 _⟩
theorem c_Slices_ContainsFunc_Limpl_Told_impl_Told_M_BrokenRules_c1_c1 {w0:World} (a1:(List ((Int × (List Int)) × (List (Int × (List Int)))))) (u1:Value) (g1:RO [] w0 u1 a1) (pb1:Nat) (ax1:(List (Int × (List Int) × Int × Int × Int))) (g2:ROAt [] w0 pb1 0 ax1) (pb2:Nat) (ax2:(Int × (List Int))) (g3:ROAt [] w0 pb2 0 ax2) (rr:Bool) (hF:Slices.ContainsFunc_Limpl_Told_impl_Told_M_BrokenRules_c1_c1 a1 ax1 ax2=some rr) :
 Calls Tryz.prog 75 [u1,(.func (.func 87) #[] #[(ptr pb1 0),(ptr pb2 0)])].toArray w0 fun e w'=>∃v,e=.returned v∧Res w0 rr v w':=by
 refine Ax Tryz.func75 z z ?_
 have hC0:=A5 w0
 unfold Slices.ContainsFunc_Limpl_Told_impl_Told_M_BrokenRules_c1_c1 at hF
 refine Ac<|Ad z z<|Ab<|Ac<|Ae z z<|Ae z z<|be hF fun x1 hr1 hF=>ci Tryz.call66 z z (c_Slices_IndexFunc_Limpl_Told_impl_Told_M_BrokenRules_c1_c1 a1 u1 (g1.now hC0.keep) pb1 ax1 (g2.now hC0.keep) pb2 ax2 (g3.now hC0.keep) x1 hr1) fun w1 hB1=>have hC1:=hC0.grow hB1;Cf z z z<|Ad z z<|Ab<|AL<|?_
 obtain rfl:=Aa hF
 exact A2 z z<|⟨_,z,AN hC1 _⟩
theorem c_M_BrokenRules_c1 {w0:World} (a1:(Int × (List Int))) (u1:Value) (g1:RO [] w0 u1 a1.2) (pb1:Nat) (ax1:(List ((Int × (List Int)) × (List (Int × (List Int)))))) (g2:ROAt [] w0 pb1 0 ax1) (pb2:Nat) (ax2:(List (Int × (List Int) × Int × Int × Int))) (g3:ROAt [] w0 pb2 0 ax2) (rr:Bool) (hF:M.BrokenRules_c1 a1 ax1 ax2=some rr) :
 Calls Tryz.prog 86 [(.agg #[(I a1.1),u1]),(ptr pb1 0),(ptr pb2 0)].toArray w0 fun e w'=>∃v,e=.returned v∧Res w0 rr v w':=by
 refine Ax Tryz.func86 z z ?_
 have hC0:=A5 w0
 unfold M.BrokenRules_c1 at hF
 refine Ac<|Br (cs:=[(I a1.1),u1]) hC0 z z z fun b1 w1 hC1 hB1 hN1=>Ad z z<|Ab<|Ac<|AI ty26 g2 hC1.keep z z fun v1 h1=>BP z z<|be hF fun x1 hr1 hF=>cb Tryz.call75 z z (c_Slices_ContainsFunc_Limpl_Told_impl_Told_M_BrokenRules_c1_c1 ax1 v1 (h1.now hC1.keep) pb2 ax2 (g3.now hC1.keep) b1 (a1.1,a1.2) (hC1.boxAt 0 z (repw_pair repw_int (repw_slice (g1.now hC1.keep)))) x1 hr1) fun w2 hB2=>have hC2:=hC1.grow hB2;B3 z z<|Ad z z<|Ab<|AL<|?_
 obtain rfl:=Aa hF
 exact A2 z z<|⟨_,z,AN hC2 _⟩
theorem c_Slices_IndexFunc_Limpl_Fact_impl_Fact_M_BrokenRules_c1 {w0:World} (a1:(List (Int × (List Int)))) (u1:Value) (g1:RO [] w0 u1 a1) (pb1:Nat) (ax1:(List ((Int × (List Int)) × (List (Int × (List Int)))))) (g2:ROAt [] w0 pb1 0 ax1) (pb2:Nat) (ax2:(List (Int × (List Int) × Int × Int × Int))) (g3:ROAt [] w0 pb2 0 ax2) (rr:Int) (hF:Slices.IndexFunc_Limpl_Fact_impl_Fact_M_BrokenRules_c1 a1 ax1 ax2=some rr) :
 Calls Tryz.prog 126 [u1,(.func (.func 86) #[] #[(ptr pb1 0),(ptr pb2 0)])].toArray w0 fun e w'=>∃v,e=.returned v∧Res w0 rr v w':=by
 refine Ax Cj z z ?_
 have hC0:=A5 w0
 unfold Slices.IndexFunc_Limpl_Fact_impl_Fact_M_BrokenRules_c1 at hF
 refine Ac<|Ad z z<|Ab<|A6<|Ac<|Ae z z<|Bc Ai g1 z z<|Ae z z<|Ab<|be hF fun r1 hr1 hF=>Bi (fun l w=>.inl ()=r1∧l=[]∧Below w0.heap.size w0 w∧Ctx [] w0 w []) ?_ ?_
 ·refine AJ<|wS (l':=[(0,u1),(1,(.func (.func 86) #[] #[(ptr pb1 0),(ptr pb2 0)])),(7,(I (List.length a1:Int))),(8,(I 0))]) ⟨z,z,z,z,Aj⟩<|B2 (fun k l w=>∃x1:Int,l=[(0,u1),(1,(.func (.func 86) #[] #[(ptr pb1 0),(ptr pb2 0)])),(7,(I (List.length a1:Int))),(8,(I x1))]∧Below w0.heap.size w0 w∧Ctx [] w0 w []∧Slices.IndexFunc_Limpl_Fact_impl_Fact_M_BrokenRules_c1_l1 a1 ax1 ax2 k x1=some r1) FUEL ⟨0,z,(Al _ _),hC0,hr1⟩<|?_
  clear hr1
  rintro k1 _ w1 ⟨x1,rfl,hB1,hC1,hL1⟩
  cases k1 with
  | zero=>rw [Slices.IndexFunc_Limpl_Fact_impl_Fact_M_BrokenRules_c1_l1] at hL1; cases hL1
  | succ k1 =>
   rw [Slices.IndexFunc_Limpl_Fact_impl_Fact_M_BrokenRules_c1_l1] at hL1
   refine Ac<|Bv z z z<|Ab<|A6<|AE z (fun hc1=>?_) (fun hc1=>?_)
   ·replace hL1:=A7 hL1 hc1
    refine AF<|Ap<|A6<|AJ<|Ac<|Ae z z<|Ad z z<|Ab<|Ac<|Ae z z<|Ae z z<|Ae z z<|be hL1 fun x2 hx1 hL1=>AH Ai ty88 g1 hx1 z z z fun b1 o1 h1=>AI ty88 h1 hC1.keep z z fun v1 h2=>?_
    obtain ⟨v2,rfl,h3⟩:=BD h2
    refine be hL1 fun x3 hr2 hL1=>BT (cap:=[(ptr pb1 0),(ptr pb2 0)]) Tryz.call86 z z z (c_M_BrokenRules_c1 x2 v2 (h3.now hC1.keep) pb1 ax1 (g2.now hC1.keep) pb2 ax2 (g3.now hC1.keep) x3 hr2) fun _ w2 hv1=>?_
    obtain ⟨rfl,hB2⟩:=BU hv1
    have hC2:=hC1.grow hB2
    refine Ab<|AE z (fun hc2=>?_) (fun hc2=>?_)
    ·replace hL1:=A7 hL1 hc2
     refine Ac<|Ae z z<|Ad z z<|Ab<|AL<|Bd<|Av<|Av<|Bd<|Av<|Av<|?_
     obtain rfl:=Aa hL1
     dsimp only at hF
     obtain rfl:=Aa hF
     exact A2 z z<|⟨_,z,B4 hC2 _⟩
    replace hL1:=A8 hL1 hc2
    exact AF<|AU<|Ap<|Bg<|Bn z z z<|Ae z z<|Ab<|Am (l':=[(0,u1),(1,(.func (.func 86) #[] #[(ptr pb1 0),(ptr pb2 0)])),(7,(I (List.length a1:Int))),(8,(I (w64 (x1+1))))]) ⟨z,z,z,z,Aj⟩<|⟨k1,A3 _,w64 (x1+1),z,((Ao hB1).then hB2).below,hC2,hL1⟩
   replace hL1:=A8 hL1 hc1
   refine B1 (A9 (A9 (Bk ?_)))
   obtain rfl:=Aa hL1
   exact Am (l':=[]) Aj<|⟨z,z,(Ao hB1).below,hC1⟩
 rintro l2 _ w3 hs2 ⟨rfl,rfl,hB3,hC3⟩
 try dsimp only at hF
 refine AY hs2 ?_
 clear hs2
 refine Ac<|Ad z z<|Ab<|AL<|?_
 obtain rfl:=Aa hF
 exact A2 z z<|⟨_,z,B4 hC3 _⟩
end Go.Gx.Px
