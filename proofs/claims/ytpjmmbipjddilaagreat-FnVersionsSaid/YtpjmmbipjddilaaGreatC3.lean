/- The contracts of the Go functions against the pure functions, printed by program. Conditions: each says them. -/
import Derived.Test.YtpjmmbipjddilaaGreatC2
set_option linter.unusedVariables false
set_option linter.unusedSimpArgs false
set_option maxRecDepth 100000
set_option maxHeartbeats 4000000
namespace Go.Gx.Px
open Go.Proofs Go.RowKit
open K9
theorem c_S_AreFacts {w0:World} (a1:(List Int)) (u1:Value) (g1:RO [] w0 u1 a1) (a2:(List (Int × (List Int)))) (u2:Value) (g2:RO [] w0 u2 a2) (rr:Bool) (hF:S.AreFacts a1 a2=some rr) :
 Calls Tryz.prog 46 [u1,u2].toArray w0 fun e w'=>∃v,e=.returned v∧Res w0 rr v w':=by
 refine A4 Tryz.func46 z z ?_
 have hC0:=AD w0
 unfold S.AreFacts at hF
 refine Ad<|Ag z z<|Ab<|AC<|Ad<|Ag z z<|Ab<|be hF fun r1 hr1 hF=>Bv (fun l w=>.inl ()=r1∧l=[(0,u1),(1,u2)]∧Below w0.heap.size w0 w∧Ctx [] w0 w []) ?_ ?_
 ·refine Bb<|wS (l':=[(0,u1),(1,u2),(5,(I 0))]) ⟨z,z,z,Am⟩<|BC (fun k l w=>∃x1:Int,l=[(0,u1),(1,u2),(5,(I x1))]∧Below w0.heap.size w0 w∧Ctx [] w0 w []∧S.AreFacts_l1 a2 a1 k x1=some r1) FUEL ⟨0,z,(Aq _ _),hC0,hr1⟩<|?_
  clear hr1
  rintro k1 _ w1 ⟨x1,rfl,hB1,hC1,hL1⟩
  cases k1 with
  | zero=>rw [S.AreFacts_l1] at hL1; cases hL1
  | succ k1 =>
   rw [S.AreFacts_l1] at hL1
   refine AC<|Ad<|Af z z<|Af z z<|Bo Ah g2 z z<|B6 z z z<|Ab<|AN z (fun hc1=>?_) (fun hc1=>?_)
   ·replace hL1:=AF hL1 hc1
    refine AR<|Ax<|AC<|Bb<|be hL1 fun r2 hr2 hL1=>BP (fun l w=>∃x2:Bool,x2=r2∧l=[(0,u1),(1,u2),(5,(I x1)),(35,(.bool x2))]∧Below w1.heap.size w1 w∧Ctx [] w0 w []) ?_ ?_
    ·refine W_drawn 24 z hmix fun w3 hB3=>have hC3:=hC1.grow hB3;tm 0 z z z<|tm 1 z z z<|tm 2 z z z<|be hr2 fun x3 hx1 hr2=>tk 3 z z (BL Ah ty29 g2 hx1 z z)<|Bc Ah ty29 g2 hx1 z z z fun b1 o1 h1=>Ab<|oe 4 z<|Bf ty29 h1 hC3.keep z z fun v1 h2=>?_
     obtain ⟨v2,rfl,h3⟩:=BJ h2
     refine Ab<|be hr2 fun x4 hr3 hr2=>oe 5 z<|cb Tryz.call40 z z (c_S_IsFact a1 u1 (g1.now hC3.keep) x3 v2 (h3.now hC3.keep) x4 hr3) fun w4 hB4=>have hC4:=hC3.grow hB4;Ab<|tk 6 z z (Cy z)<|B2 z z<|Ab<|tm 7 z z z<|BE (fun hc2=>?_) (fun hc2=>?_)
     ·replace hr2:=AF hr2 hc2
      refine sk 8 z z z z z<|sk 9 z z z z z<|sk 10 z z z z z<|sk 11 z z z z z<|sk 12 z z z z z<|sk 13 z z z z z<|sk 14 z z z z z<|sk 15 z z z z z<|sk 16 z z z z z<|sk 17 z z z z z<|sk 18 z z z z z<|sk 19 z z z z z<|sk 20 z z z z z<|sk 21 z z z z z<|sk 22 z z z z z<|tp 23 z z z z<|dn<|?_
      obtain rfl:=Aa hr2
      exact Ay (l':=[(0,u1),(1,u2),(5,(I x1)),(35,(.bool true))]) ⟨z,z,z,z,Am⟩<|⟨true,z,z,((Ao hB3).then hB4).below,hC4⟩
     replace hr2:=AG hr2 hc2
     refine tn 8 z z z z z<|tg 9 z z z z (fl_gtr z z)<|Aj z z<|Cs z z z<|Ab<|tn 10 z z z z z<|BE (fun hc3=>?_) (fun hc3=>?_)
     ·replace hr2:=AF hr2 hc3
      refine tn 11 z z z z z<|tn 12 z z z z z<|tg 13 z z z z (CJ z z)<|Aj z z<|Cb z z z<|Ab<|be hr2 fun x5 hx2 hr2=>tg 14 z z z z (BL Ah ty29 g2 hx2 z z)<|Aj z z<|Bc Ah ty29 g2 hx2 z z z fun b2 o2 h4=>Ab<|tn 16 z z z z z<|tn 17 z z z z z<|be hr2 fun x6 hx3 hr2=>tg 18 z z z z (BL Ah ty29 g2 hx3 z z)<|Aj z z<|Bc Ah ty29 g2 hx3 z z z fun b3 o3 h5=>Ab<|wAS (l':=[(0,u1),(1,u2),(5,(I x1)),(6,(I x1)),(7,u2),(8,(I (List.length a2:Int))),(9,(.bool (decide (x1 < (List.length a2:Int))))),(12,u1),(13,u2),(14,(I x1)),(15,(ptr b1 o1)),(16,(.agg #[(I x3.1),v2])),(17,(.bool x4)),(18,(.bool (!x4))),(19,(.bool false)),(20,(I x1)),(21,(.bool (decide (0 < x1)))),(22,(.bool true)),(23,u2),(24,(I x1)),(25,(I (w64 (x1 - 1)))),(26,(ptr b2 o2)),(28,u2),(29,(I x1)),(30,(ptr b3 o3))]) ⟨z,z,z,z,z,z,z,z,z,z,z,z,z,z,z,z,z,z,z,z,z,z,z,z,z,Am⟩<|Bm [⟨15,[],fun vs=>Cw [] w0 x5,[]⟩,⟨19,[],fun vs=>Cw [] w0 x6,[]⟩] [[],[]] 4 z (by kernel_rfl) (by kernel_rfl) z ?_ ?_
      ·refine An z ?_ ?_
       ·intro w5 hB5
        refine Av<|⟨_,z,?_⟩
        exact Aj z z<|Bf ty29 h4 (hC4.keep.then hB5) z z fun v5 h8=>Ab<|A0 (Aq _ _) z z ⟨z,h8⟩
       refine An z ?_ ?_
       ·intro w5 hB5
        refine Av<|⟨_,z,?_⟩
        exact Aj z z<|Bf ty29 h5 (hC4.keep.then hB5) z z fun v8 h11=>Ab<|A0 (Aq _ _) z z ⟨z,h11⟩
       exact Bd
      intro w6 hB6
      refine Au z z z ?_
      rintro v5 _ ⟨rfl,h8⟩
      obtain ⟨v4,rfl,h7⟩:=BJ h8
      refine Au z z z ?_
      rintro v8 _ ⟨rfl,h11⟩
      obtain ⟨v7,rfl,h10⟩:=BJ h11
      refine Bn fun hn1 hb1=>have hC5:=hC4.grow hB6;be hr2 fun x7 hr4 hr2=>oe 20 z<|Aj z z<|ci CE z z (c_S_CompareFacts x5 v4 (h7.now hC5.keep) x6 v7 (h10.now hC5.keep) x7 hr4) fun w7 hB7=>have hC6:=hC5.grow hB7;Ab<|tg 21 z z z z (fl_geq z z)<|Aj z z<|C7 z z z<|Ab<|tg 22 z z z z (C9 z z)<|Aj z z<|AX z z z<|Ab<|tq 23 z z z z<|dn<|?_
      obtain rfl:=Aa hr2
      exact Ay (l':=[(0,u1),(1,u2),(5,(I x1)),(35,(.bool (decide (0 ≤ x7))))]) ⟨z,z,z,z,Am⟩<|⟨(decide (0 ≤ x7)),z,z,((((Ao hB3).then hB4).then hB6).then hB7).below,hC6⟩
     replace hr2:=AG hr2 hc3
     refine sk 11 z z z z z<|sk 12 z z z z z<|sk 13 z z z z z<|sk 14 z z z z z<|sk 15 z z z z z<|sk 16 z z z z z<|sk 17 z z z z z<|sk 18 z z z z z<|sk 19 z z z z z<|sk 20 z z z z z<|sk 21 z z z z z<|tg 22 z z z z (CA z z)<|Aj z z<|AH z z z<|Ab<|tq 23 z z z z<|dn<|?_
     obtain rfl:=Aa hr2
     exact Ay (l':=[(0,u1),(1,u2),(5,(I x1)),(35,(.bool false))]) ⟨z,z,z,z,Am⟩<|⟨false,z,z,((Ao hB3).then hB4).below,hC4⟩
    rintro _ w2 ⟨x2,rfl,rfl,hB2,hC2⟩
    try dsimp only at hL1
    refine AN z (fun hc4=>?_) (fun hc4=>?_)
    ·replace hL1:=AF hL1 hc4
     refine Ad<|Ag z z<|Ab<|AL<|Bz<|A7<|A7<|Bz<|A7<|A7<|?_
     obtain rfl:=Aa hL1
     dsimp only at hF
     obtain rfl:=Aa hF
     exact AE z z<|⟨_,z,Bh hC2 _⟩
    replace hL1:=AG hL1 hc4
    exact AR<|Bi<|Ax<|Bt<|Af z z<|By z z z<|Ag z z<|Ab<|Ay (l':=[(0,u1),(1,u2),(5,(I (w64 (x1+1))))]) ⟨z,z,z,Am⟩<|⟨k1,AS _,w64 (x1+1),z,((Ao hB1).then hB2).below,hC2,hL1⟩
   replace hL1:=AG hL1 hc1
   refine BD (AY (AY (B1 ?_)))
   obtain rfl:=Aa hL1
   exact Ay (l':=[(0,u1),(1,u2)]) ⟨z,z,Am⟩<|⟨z,z,(Ao hB1).below,hC1⟩
 rintro l3 _ w9 hs3 ⟨rfl,rfl,hB8,hC7⟩
 try dsimp only at hF
 refine Bj hs3 ?_
 clear hs3
 refine be hF fun r3 hr5 hF=>BP (fun l w=>∃x8:Bool,x8=r3∧l=[(4,(.bool x8))]∧Below w9.heap.size w9 w∧Ctx [] w0 w []) ?_ ?_
 ·refine Bt<|Af z z<|be hr5 fun x9 hr6 hr5=>cb Ck z z (c_S_IsSchema a1 u1 (g1.now hC7.keep) x9 hr6) fun w11 hB10=>have hC9:=hC7.grow hB10;Af z z<|B3 (fun hc5=>?_) (fun hc5=>?_)
  ·replace hr5:=AF hr5 hc5
   refine Aj z z<|Af z z<|Aj z z<|Bo Ah g2 z z<|Aj z z<|CH z z z<|AX z z z<|Ag z z<|Ab<|?_
   obtain rfl:=Aa hr5
   exact Ay (l':=[(4,(.bool (decide ((List.length a2:Int) ≤ 24))))]) ⟨z,Am⟩<|⟨(decide ((List.length a2:Int) ≤ 24)),z,z,(Ao hB10).below,hC9⟩
  replace hr5:=AG hr5 hc5
  refine gs z z z z<|gs z z z z<|gs z z z z<|AH z z z<|Ag z z<|Ab<|?_
  obtain rfl:=Aa hr5
  exact Ay (l':=[(4,(.bool false))]) ⟨z,Am⟩<|⟨false,z,z,(Ao hB10).below,hC9⟩
 rintro _ w10 ⟨x8,rfl,rfl,hB9,hC8⟩
 try dsimp only at hF
 refine AL ?_
 obtain rfl:=Aa hF
 exact AE z z<|⟨_,z,Bh hC8 _⟩
theorem c_S_IsSource {w0:World} (a1:(List Int)) (u1:Value) (g1:RO [] w0 u1 a1) (a2:((List (Int × (List Int))) × Int)) (u2:Value) (g2:RO [] w0 u2 a2.1) (rr:Bool) (hF:S.IsSource a1 a2=some rr) :
 Calls Tryz.prog 11 [u1,(.agg #[u2,(I a2.2)])].toArray w0 fun e w'=>∃v,e=.returned v∧Res w0 rr v w':=by
 refine A4 Tryz.func11 z z ?_
 have hC0:=AD w0
 unfold S.IsSource at hF
 refine Ad<|B0 (cs:=[u2,(I a2.2)]) hC0 z z z fun b1 w1 hC1 hB1 hN1=>Ag z z<|Ab<|be hF fun r1 hr1 hF=>BP (fun l w=>∃x1:Bool,x1=r1∧l=[(4,(.bool x1))]∧Below w1.heap.size w1 w∧Ctx [] w0 w []) ?_ ?_
 ·refine Bt<|Af z z<|fd A1 AV z z z z<|At hC1 0 z z Bq z z<|be hr1 fun x2 hr2 hr1=>cb Tryz.call46 z z (c_S_AreFacts a1 u1 (g1.now hC1.keep) a2.1 u2 (g2.now hC1.keep) x2 hr2) fun w3 hB3=>have hC3:=hC1.grow hB3;Af z z<|B3 (fun hc1=>?_) (fun hc1=>?_)
  ·replace hr1:=AF hr1 hc1
   refine Aj z z<|fd A1 Az z z z z<|Aj z z<|At hC3 0 z z AA z z<|be hr1 fun x3 hr3 hr1=>Aj z z<|cb BI z z (c_S_l1In a2.2 0 1000 x3 hr3) fun w4 hB4=>have hC4:=hC3.grow hB4;AX z z z<|Ag z z<|Ab<|?_
   obtain rfl:=Aa hr1
   have hC5:=hC4.h0
   exact Ay (l':=[(4,(.bool x3))]) ⟨z,Am⟩<|⟨x3,z,z,((Ao hB3).then hB4).below,hC5⟩
  replace hr1:=AG hr1 hc1
  refine gs z z z z<|gs z z z z<|gs z z z z<|AH z z z<|Ag z z<|Ab<|?_
  obtain rfl:=Aa hr1
  have hC6:=hC3.h0
  exact Ay (l':=[(4,(.bool false))]) ⟨z,Am⟩<|⟨false,z,z,(Ao hB3).below,hC6⟩
 rintro _ w2 ⟨x1,rfl,rfl,hB2,hC2⟩
 try dsimp only at hF
 refine AL ?_
 obtain rfl:=Aa hF
 exact AE z z<|⟨_,z,Bh hC2 _⟩
theorem c_S_l2Copy {w0:World} (a1:(List (Int × (List Int)))) (u1:Value) (g1:RO [] w0 u1 a1) (rr:(List (Int × (List Int)))) (hF:S.l2Copy a1=some rr) :
 Calls Tryz.prog 79 [u1].toArray w0 fun e w'=>∃v,e=.returned v∧Res w0 rr v w':=by
 refine A4 Tryz.func79 z z ?_
 have hC0:=AD w0
 unfold S.l2Copy at hF
 refine Ad<|Ag z z<|Ab<|Ad<|AK (vs:=[]) hC0 Ah ty29 z z z z (by simp) z z fun b1 w1 hC1 hB1=>?_
 have hC2:=hC1.row0 (α:=(Int × (List Int)))
 have hC3:=hC2.front 1 z
 dsimp only [List.eraseIdx,List.cons_append,List.nil_append,List.append_nil] at hC3
 have hC4:Ctx [] w0 w1 (Ae (.slice (some ⟨b1,0,none⟩) 0 0) (([]:List (Int × (List Int))):List (Int × (List Int)))::[]):=hC3.rowOwn (by simp [maxLen])
 refine Ag z z<|Ab<|AC<|Ad<|Ag z z<|Ab<|be hF fun r1 hr1 hF=>Bv (fun l w=>∃v2:Value,∃x3:(List (Int × (List Int))),x3=r1∧l=[(3,v2)]∧Ctx [] w0 w [Ae v2 (x3:(List (Int × (List Int))))]) ?_ ?_
 ·refine Bb<|wS (l':=[(0,u1),(3,(.slice (some ⟨b1,0,none⟩) 0 0)),(4,(I 0))]) ⟨z,z,z,Am⟩<|BC (fun k l w=>∃v1:Value,∃x1:(List (Int × (List Int))),∃x2:Int,l=[(0,u1),(3,v1),(4,(I x2))]∧Ctx [] w0 w [Ae v1 (x1:(List (Int × (List Int))))]∧S.l2Copy_l1 a1 k x1 x2=some r1) FUEL ⟨(.slice (some ⟨b1,0,none⟩) 0 0),([]:List (Int × (List Int))),0,z,hC4,hr1⟩<|?_
  clear hr1
  rintro k1 _ w2 ⟨v1,x1,x2,rfl,hC5,hL1⟩
  cases k1 with
  | zero=>rw [S.l2Copy_l1] at hL1; cases hL1
  | succ k1 =>
   rw [S.l2Copy_l1] at hL1
   refine AC<|Ad<|Af z z<|Af z z<|Bo Ah g1 z z<|B6 z z z<|Ab<|AN z (fun hc1=>?_) (fun hc1=>?_)
   ·replace hL1:=AF hL1 hc1
    refine AR<|Ax<|AC<|Bb<|W_drawn 15 z hmix fun w3 hB3=>have hC6:=hC5.grow hB3;tm 0 z z z<|tm 1 z z z<|tm 2 z z z<|be hL1 fun x4 hx1 hL1=>tk 3 z z (BL Ah ty29 g1 hx1 z z)<|Bc Ah ty29 g1 hx1 z z z fun b2 o1 h1=>Ab<|tf 4 A3 Az z z z z z<|tm 6 z z z<|tm 7 z z z<|be hL1 fun x5 hx2 hL1=>tk 8 z z (BL Ah ty29 g1 hx2 z z)<|Bc Ah ty29 g1 hx2 z z z fun b3 o2 h2=>Ab<|tf 9 A3 A2 z z z z z<|wAS (l':=[(0,u1),(3,v1),(4,(I x2)),(6,(I x2)),(7,u1),(8,(I (List.length a1:Int))),(9,(.bool (decide (x2 < (List.length a1:Int))))),(12,v1),(13,u1),(14,(I x2)),(15,(ptr b2 o1)),(16,(ptr b2 (o1+0))),(18,u1),(19,(I x2)),(20,(ptr b3 o2)),(21,(ptr b3 (o2+1)))]) ⟨z,z,z,z,z,z,z,z,z,z,z,z,z,z,z,z,Am⟩<|Bm [⟨5,[],fun vs=>AU (I x4.1),[]⟩,⟨10,[],fun vs=>Cw [] w0 x5.2,[]⟩] [[],[]] 4 z (by kernel_rfl) (by kernel_rfl) z ?_ ?_
    ·refine An z ?_ ?_
     ·intro w4 hB4
      refine Av<|⟨_,z,?_⟩
      refine Bf ty3 h1.fst (hC6.keep.then hB4) z z (fun v3 h3=>?_)
      obtain rfl:=BG h3
      exact Ab<|A0 (Aq _ _) z z ⟨z,z⟩
     refine An z ?_ ?_
     ·intro w4 hB4
      refine Av<|⟨_,z,?_⟩
      exact Bf ty24 h2.snd (hC6.keep.then hB4) z z fun v4 h4=>Ab<|A0 (Aq _ _) z z ⟨z,h4⟩
     exact Bd
    intro w5 hB5
    refine Au z z z ?_
    rintro _ _ ⟨rfl,rfl⟩
    refine Au z z z ?_
    rintro v4 _ ⟨rfl,h4⟩
    refine Bn fun hn1 hb1=>have hC7:=hC6.grow hB5;be hL1 fun x6 hr2 hL1=>oe 11 z<|A8 C1 z z (c_S_l2One x4.1 x5.2 v4 (h4.now hC7.keep) x6 hr2)<|?_
    rintro v5 w6 ⟨hB6,F1,hv1,hn2,hb2⟩
    have hC8:=hC7.push hB6 (A:=Ae v5 x6) hv1 hn2 hb2
    obtain ⟨v6,rfl,hC9⟩:=st29_own hC8
    refine Ab<|oe 12 z<|AK (vs:=[(.agg #[(I x6.1),v6])]) hC9 Ah ty29 z z z z (fac z<|fa0) z z fun b4 w7 hC10 hB7=>?_
    have hC11:=hC10.row0 (α:=(Int × (List Int)))
    have hC13:=hC11.f2
    have hC12:=Cf x6.1 v6 x6.2 hC13
    have hC14:=hC12.row1
    have hC15:=hC14.front 1 z
    dsimp only [List.eraseIdx,List.cons_append,List.nil_append,List.append_nil] at hC15
    have hC16:Ctx [] w0 w7 (Ae (.slice (some ⟨b4,0,none⟩) 1 1) ([(x6.1,x6.2)]:List (Int × (List Int)))::[Ae v1 (x1:(List (Int × (List Int))))]):=hC15.rowOwn (by simp [maxLen])
    refine Ab<|be hL1 fun x7 hx3 hL1=>oe 13 z<|BH hC16 0 z Ah ty29 z hx3 z z z fun v7 w9 hC17=>?_
    try dsimp only [List.set] at hC17
    exact Ab<|ta 14 z z z<|dn<|Bi<|Ax<|Bt<|Af z z<|By z z z<|Ag z z<|Ab<|Ay (l':=[(0,u1),(3,v7),(4,(I (w64 (x2+1))))]) ⟨z,z,z,Am⟩<|⟨k1,AS _,v7,x7,w64 (x2+1),z,hC17,hL1⟩
   replace hL1:=AG hL1 hc1
   refine BD (AY (AY (B1 ?_)))
   obtain rfl:=Aa hL1
   exact Ay (l':=[(3,v1)]) ⟨z,Am⟩<|⟨v1,x1,z,z,hC5⟩
 rintro l2 _ w10 hs2 ⟨v2,x3,rfl,rfl,hC19⟩
 try dsimp only at hF
 refine Bj hs2 ?_
 clear hs2
 refine Ad<|Af z z<|Ag z z<|Ab<|AL<|?_
 obtain rfl:=Aa hF
 exact AE z z<|⟨_,z,Cd hC19 0 z⟩
theorem c_S_l25Copy {w0:World} (a1:((List (Int × (List Int))) × Int)) (u1:Value) (g1:RO [] w0 u1 a1.1) (rr:((List (Int × (List Int))) × Int)) (hF:S.l25Copy a1=some rr) :
 Calls Tryz.prog 39 [(.agg #[u1,(I a1.2)])].toArray w0 fun e w'=>∃v,e=.returned v∧Res w0 rr v w':=by
 refine A4 Tryz.func39 z z ?_
 have hC0:=AD w0
 unfold S.l25Copy at hF
 refine Ad<|B0 (cs:=[u1,(I a1.2)]) hC0 z z z fun b1 w1 hC1 hB1 hN1=>AW hC1 zero27 z z fun b2 w2 hC2 hB2 hN2=>Ab<|AC<|W_drawn 7 z hmix fun w3 hB3=>have hC3:=hC2.grow hB3;tf 0 A1 AV z z z z z<|tf 3 A1 Az z z z z z<|be hF fun x1 hr1 hF=>wAS (l':=[(0,(.agg #[u1,(I a1.2)])),(1,(ptr b1 0)),(2,(ptr b2 0)),(3,(ptr b1 0)),(6,(ptr b1 1))]) ⟨z,z,z,z,z,Am⟩<|Bm [⟨1,[],fun vs=>AU u1,[]⟩,⟨2,[],fun vs=>Ct x1,[]⟩,⟨4,[],fun vs=>AU (I a1.2),[]⟩] [[],[1],[]] 2 z (by kernel_rfl) (by kernel_rfl) z ?_ ?_
 ·refine An z ?_ ?_
  ·intro w5 hB5
   refine Av<|⟨_,z,?_⟩
   exact At (hC3.grow hB5) 1 z z Bq z z<|Ab<|A0 (Aq _ _) z z ⟨z,z⟩
  refine An z ?_ ?_
  ·intro w5 hB5
   refine A6 z z z ?_
   rintro _ _ ⟨rfl,rfl⟩ _
   refine Av<|⟨_,z,?_⟩
   refine A8 Tryz.call79 z z (c_S_l2Copy a1.1 u1 (g1.now (hC3.keep.then hB5)) x1 hr1) ?_
   rintro v1 w4 ⟨hB4,F1,hv1,hn1,hb1⟩
   exact Ab<|Cn hB4 z z hv1 hn1 hb1 (Val.inh hv1)
  refine An z ?_ ?_
  ·intro w5 hB5
   refine Av<|⟨_,z,?_⟩
   exact At (hC3.grow hB5) 1 z z AA z z<|Ab<|A0 (Aq _ _) z z ⟨z,z⟩
  exact Bd
 intro w6 hB6
 refine Au z z z ?_
 rintro _ _ ⟨rfl,rfl⟩
 refine Au z z z fun v1 F1 hv1=>Au z z z<|?_
 rintro _ _ ⟨rfl,rfl⟩
 refine Bn ?_
 intro hn2 hb2
 have hC4:=hC3.pushL hB6 (Bs:=[Ae v1 (x1:(List (Int × (List Int))))]) (Fs:=[F1]) ⟨F1,_,z,hv1,z⟩ (by simpa using hn2) (fun b h=>(hb2 b (by simpa using h)).1)
 refine tk 5 z z (Cm (vs:=[(0,v1),(1,(I a1.2))]) z z (built27_0_1 (Ca (hC4.ro 0 z)) z))<|BB (vs:=[(0,v1),(1,(I a1.2))]) z z z (built27_0_1 (Ca (hC4.ro 0 z)) z)<|Ab<|oe 6 z<|Al (cs':=[v1,(I a1.2)]) (new:=[v1,(I a1.2)]) hC4 1 z z (fac (AP (hC4.ro 0 z))<|fac z<|fa0) z Aw z z fun w7 hC5 hKp1=>?_
 try dsimp only [List.set] at hC5
 have hk1:=Ak ((((Ao hB1).then hB2).then hB3).then hB6) (Ai (Ao hB1).size hN2) hKp1
 have hk2:=Ak (((Ao hB2).then hB3).then hB6) hN2 hKp1
 refine Ab<|dn<|Ax<|AL<|?_
 obtain rfl:=Aa hF
 refine BM z (rv_cell_agg (cs':=[v1,(I a1.2)]) hC5 (i:=1) z z z A9 Aw z) ?_
 have hC6:=Cl v1 x1 a1.2 hC5
 exact ⟨_,z,Cd hC6 0 z⟩
theorem c_S_ApplyChange {w0:World} (a1:(List Int)) (u1:Value) (g1:RO [] w0 u1 a1) (a2:((List (Int × (List Int))) × Int)) (u2:Value) (g2:RO [] w0 u2 a2.1) (a3:(Bool × (Int × (List Int)))) (u3:Value) (g3:RO [] w0 u3 a3.2.2) (rr:(((List (Int × (List Int))) × Int) × Bool)) (hF:S.ApplyChange a1 a2 a3=some rr) :
 Calls Tryz.prog 8 [u1,(.agg #[u2,(I a2.2)]),(.agg #[(.bool a3.1),(I a3.2.1),u3])].toArray w0 fun e w'=>∃v,e=.returned v∧Res2 w0 rr.1 rr.2 v w':=by
 refine A4 Tryz.func8 z z ?_
 have hC0:=AD w0
 unfold S.ApplyChange at hF
 refine Ad<|B0 (cs:=[u2,(I a2.2)]) hC0 z z z fun b1 w1 hC1 hB1 hN1=>B0 (cs:=[(.bool a3.1),(I a3.2.1),u3]) hC1 z z z fun b2 w2 hC2 hB2 hN2=>AW hC2 zero27 z z fun b3 w3 hC3 hB3 hN3=>Ag z z<|Ab<|Ad<|Ar [u2,(I a2.2)] hC3 2 z z z A9 Aw z z<|be hF fun x1 hr1 hF=>A8 Tryz.call39 z z (c_S_l25Copy (a2.1,a2.2) u2 (g2.now hC3.keep) x1 hr1)<|?_
 rintro v1 w4 ⟨hB4,F1,hv1,hn1,hb1⟩
 have hC4:=hC3.push hB4 (A:=Ae v1 x1) hv1 hn1 hb1
 obtain ⟨v2,rfl,hC5⟩:=st27_own hC4
 refine AW hC5 zero27 z z fun b4 w5 hC6 hB5 hN4=>Al (cs':=[v2,(I x1.2)]) (new:=[v2,(I x1.2)]) hC6 0 z z (fac (AP (hC6.ro 1 z))<|fac z<|fa0) z Aw z z fun w6 hC7 hKp1=>?_
 try dsimp only [List.set] at hC7
 have hk1:=Ak (((((Ao hB1).then hB2).then hB3).then hB4).then hB5) (Ai ((((Ao hB1).then hB2).then hB3).then hB4).size hN4) hKp1
 have hk2:=Ak ((((Ao hB2).then hB3).then hB4).then hB5) (Ai (((Ao hB2).then hB3).then hB4).size hN4) hKp1
 have hk3:=Ak (((Ao hB3).then hB4).then hB5) (Ai ((Ao hB3).then hB4).size hN4) hKp1
 have hk4:=Ak ((Ao hB4).then hB5) (Ai (Ao hB4).size hN4) hKp1
 have hk5:=Ak (Ao hB5) hN4 hKp1
 refine Ab<|AC<|be hF fun r1 hr2 hF=>BP (fun l w=>∃x2:Bool,x2=r1∧l=[(4,(ptr b1 0)),(5,(ptr b2 0)),(6,(ptr b3 0)),(8,(ptr b4 0)),(47,(.bool x2))]∧Below w6.heap.size w6 w∧Ctx [] w0 w [Ac b4 [v2,(I x1.2)],Ae v2 (x1.1:(List (Int × (List Int)))),Ac b3 [(.slice none 0 0),(I 0)],Ac b2 [(.bool a3.1),(I a3.2.1),u3],Ac b1 [u2,(I a2.2)]]) ?_ ?_
 ·refine W_drawn 36 z hmix fun w9 hB7=>have hC9:=hC7.grow hB7;tm 0 z z z<|oe 1 z<|Ar [u2,(I a2.2)] hC9 4 z z z A9 Aw z z<|Ab<|be hr2 fun x3 hr3 hr2=>oe 2 z<|cb CR z z (c_S_IsSource a1 u1 (g1.now hC9.keep) (a2.1,a2.2) u2 (g2.now hC9.keep) x3 hr3) fun w10 hB8=>have hC10:=hC9.grow hB8;Ab<|tk 3 z z (Cy z)<|B2 z z<|Ab<|tm 4 z z z<|BE (fun hc1=>?_) (fun hc1=>?_)
  ·replace hr2:=AF hr2 hc1
   refine sk 5 z z z z z<|sk 6 z z z z z<|sk 7 z z z z z<|sk 8 z z z z z<|sk 9 z z z z z<|tp 10 z z z z<|tm 11 z z z<|sk 12 z z z z z<|sk 13 z z z z z<|sk 14 z z z z z<|tp 15 z z z z<|tm 16 z z z<|sk 17 z z z z z<|sk 18 z z z z z<|sk 19 z z z z z<|sk 20 z z z z z<|sk 21 z z z z z<|sk 22 z z z z z<|sk 23 z z z z z<|sk 24 z z z z z<|tp 25 z z z z<|tm 26 z z z<|sk 27 z z z z z<|sk 28 z z z z z<|sk 29 z z z z z<|sk 30 z z z z z<|sk 31 z z z z z<|sk 32 z z z z z<|sk 33 z z z z z<|sk 34 z z z z z<|tp 35 z z z z<|dn<|?_
   obtain rfl:=Aa hr2
   exact Ay (l':=[(4,(ptr b1 0)),(5,(ptr b2 0)),(6,(ptr b3 0)),(8,(ptr b4 0)),(47,(.bool true))]) ⟨z,z,z,z,z,Am⟩<|⟨true,z,z,((Ao hB7).then hB8).below,hC10⟩
  replace hr2:=AG hr2 hc1
  refine tn 5 z z z z z<|tg 6 z z z z (B5 Bk z z (fun w=>⟨_,AI w⟩) z)<|Aj z z<|fd Bk AI z z z z<|Ab<|oe 7 z<|Aj z z<|Ar [(I a3.2.1),u3] hC10 3 z z z Bu AI z z<|Ab<|be hr2 fun x4 hr4 hr2=>oe 8 z<|Aj z z<|cb Tryz.call40 z z (c_S_IsFact a1 u1 (g1.now hC10.keep) (a3.2.1,a3.2.2) u3 (g3.now hC10.keep) x4 hr4) fun w11 hB9=>have hC11:=hC10.grow hB9;Ab<|tg 9 z z z z (Cy z)<|Aj z z<|B2 z z<|Ab<|tq 10 z z z z<|tm 11 z z z<|BE (fun hc2=>?_) (fun hc2=>?_)
  ·replace hr2:=AF hr2 hc2
   refine sk 12 z z z z z<|sk 13 z z z z z<|sk 14 z z z z z<|tp 15 z z z z<|tm 16 z z z<|sk 17 z z z z z<|sk 18 z z z z z<|sk 19 z z z z z<|sk 20 z z z z z<|sk 21 z z z z z<|sk 22 z z z z z<|sk 23 z z z z z<|sk 24 z z z z z<|tp 25 z z z z<|tm 26 z z z<|sk 27 z z z z z<|sk 28 z z z z z<|sk 29 z z z z z<|sk 30 z z z z z<|sk 31 z z z z z<|sk 32 z z z z z<|sk 33 z z z z z<|sk 34 z z z z z<|tp 35 z z z z<|dn<|?_
   obtain rfl:=Aa hr2
   exact Ay (l':=[(4,(ptr b1 0)),(5,(ptr b2 0)),(6,(ptr b3 0)),(8,(ptr b4 0)),(47,(.bool true))]) ⟨z,z,z,z,z,Am⟩<|⟨true,z,z,(((Ao hB7).then hB8).then hB9).below,hC11⟩
  replace hr2:=AG hr2 hc2
  refine tg 12 z z z z (B5 A1 z z (fun w=>⟨_,Az w⟩) z)<|Aj z z<|fd A1 Az z z z z<|Ab<|oe 13 z<|Aj z z<|At hC11 4 z z AA z z<|Ab<|tg 14 z z z z (fl_geq z z)<|Aj z z<|C7 z z z<|Ab<|tq 15 z z z z<|tm 16 z z z<|BE (fun hc3=>?_) (fun hc3=>?_)
  ·replace hr2:=AF hr2 hc3
   refine sk 17 z z z z z<|sk 18 z z z z z<|sk 19 z z z z z<|sk 20 z z z z z<|sk 21 z z z z z<|sk 22 z z z z z<|sk 23 z z z z z<|sk 24 z z z z z<|tp 25 z z z z<|tm 26 z z z<|sk 27 z z z z z<|sk 28 z z z z z<|sk 29 z z z z z<|sk 30 z z z z z<|sk 31 z z z z z<|sk 32 z z z z z<|sk 33 z z z z z<|sk 34 z z z z z<|tp 35 z z z z<|dn<|?_
   obtain rfl:=Aa hr2
   exact Ay (l':=[(4,(ptr b1 0)),(5,(ptr b2 0)),(6,(ptr b3 0)),(8,(ptr b4 0)),(47,(.bool true))]) ⟨z,z,z,z,z,Am⟩<|⟨true,z,z,(((Ao hB7).then hB8).then hB9).below,hC11⟩
  replace hr2:=AG hr2 hc3
  refine tg 17 z z z z (B5 A1 z z (fun w=>⟨_,AV w⟩) z)<|Aj z z<|fd A1 AV z z z z<|Ab<|tg 19 z z z z (B5 Bk z z (fun w=>⟨_,AI w⟩) z)<|Aj z z<|fd Bk AI z z z z<|Ab<|tg 22 z z z z (B5 Bk z z (fun w=>⟨_,BT w⟩) z)<|Aj z z<|fd Bk BT z z z z<|Ab<|be hr2 fun x5 hr5 hr2=>wAS (l':=[(0,u1),(1,(.agg #[u2,(I a2.2)])),(2,(.agg #[(.bool a3.1),(I a3.2.1),u3])),(4,(ptr b1 0)),(5,(ptr b2 0)),(6,(ptr b3 0)),(7,(.bool false)),(8,(ptr b4 0)),(10,(.agg #[u2,(I a2.2)])),(11,(.agg #[v2,(I x1.2)])),(12,u1),(13,(.agg #[u2,(I a2.2)])),(14,(.bool x3)),(15,(.bool (!x3))),(16,(.bool false)),(17,u1),(18,(ptr b2 1)),(19,(.agg #[(I a3.2.1),u3])),(20,(.bool x4)),(21,(.bool (!x4))),(22,(.bool (!x4))),(23,(.bool false)),(24,(ptr b1 1)),(25,(I a2.2)),(26,(.bool (decide (1000 ≤ a2.2)))),(27,(.bool (decide (1000 ≤ a2.2)))),(28,(.bool false)),(29,(ptr b1 0)),(31,(ptr b2 1)),(34,(ptr b2 0))]) ⟨z,z,z,z,z,z,z,z,z,z,z,z,z,z,z,z,z,z,z,z,z,z,z,z,z,z,z,z,z,z,Am⟩<|Bm [⟨18,[],fun vs=>AU u2,[]⟩,⟨20,[],fun vs=>AU (.agg #[(I a3.2.1),u3]),[]⟩,⟨21,[],fun vs=>AU (.bool x5),[]⟩,⟨23,[],fun vs=>AU (.bool a3.1),[]⟩] [[],[],[18,20],[]] 12 z (by kernel_rfl) (by kernel_rfl) z ?_ ?_
  ·refine An z ?_ ?_
   ·intro w13 hB11
    refine Av<|⟨_,z,?_⟩
    exact Aj z z<|At (hC11.grow hB11) 4 z z Bq z z<|Ab<|A0 (Aq _ _) z z ⟨z,z⟩
   refine An z ?_ ?_
   ·intro w13 hB11
    refine Av<|⟨_,z,?_⟩
    exact Aj z z<|Ar [(I a3.2.1),u3] (hC11.grow hB11) 3 z z z Bu AI z z<|Ab<|A0 (Aq _ _) z z ⟨z,z⟩
   refine An z ?_ ?_
   ·intro w13 hB11
    refine A6 z z z ?_
    rintro _ _ ⟨rfl,rfl⟩ _
    refine A6 z z z ?_
    rintro _ _ ⟨rfl,rfl⟩ _
    refine Av<|⟨_,z,?_⟩
    exact Aj z z<|cb Tryz.call12 z z (c_S_HasFact a2.1 u2 (g2.now (hC11.keep.then hB11)) (a3.2.1,a3.2.2) u3 (g3.now (hC11.keep.then hB11)) x5 hr5) fun w12 hB10=>Ab<|A0 hB10 z z ⟨z,z⟩
   refine An z ?_ ?_
   ·intro w13 hB11
    refine Av<|⟨_,z,?_⟩
    exact Aj z z<|At (hC11.grow hB11) 3 z z Co z z<|Ab<|A0 (Aq _ _) z z ⟨z,z⟩
   exact Bd
  intro w14 hB12
  refine Au z z z ?_
  rintro _ _ ⟨rfl,rfl⟩
  refine Au z z z ?_
  rintro _ _ ⟨rfl,rfl⟩
  refine Au z z z ?_
  rintro _ _ ⟨rfl,rfl⟩
  refine Au z z z ?_
  rintro _ _ ⟨rfl,rfl⟩
  refine Bn fun hn2 hb2=>have hC12:=hC11.grow hB12;tg 24 z z z z (fl_bool_eql BK z z)<|Aj z z<|WL_bool_eql BK z z z<|Ab<|tq 25 z z z z<|tm 26 z z z<|BE (fun hc4=>?_) (fun hc4=>?_)
  ·replace hr2:=AF hr2 hc4
   refine sk 27 z z z z z<|sk 28 z z z z z<|sk 29 z z z z z<|sk 30 z z z z z<|sk 31 z z z z z<|sk 32 z z z z z<|sk 33 z z z z z<|sk 34 z z z z z<|tp 35 z z z z<|dn<|?_
   obtain rfl:=Aa hr2
   exact Ay (l':=[(4,(ptr b1 0)),(5,(ptr b2 0)),(6,(ptr b3 0)),(8,(ptr b4 0)),(47,(.bool true))]) ⟨z,z,z,z,z,Am⟩<|⟨true,z,z,((((Ao hB7).then hB8).then hB9).then hB12).below,hC12⟩
  replace hr2:=AG hr2 hc4
  refine tg 27 z z z z (B5 Bk z z (fun w=>⟨_,BT w⟩) z)<|Aj z z<|fd Bk BT z z z z<|Ab<|oe 28 z<|Aj z z<|At hC12 3 z z Co z z<|Ab<|tn 29 z z z z z<|BE (fun hc5=>?_) (fun hc5=>?_)
  ·replace hr2:=AF hr2 hc5
   refine tg 30 z z z z (B5 A1 z z (fun w=>⟨_,AV w⟩) z)<|Aj z z<|fd A1 AV z z z z<|Ab<|oe 31 z<|Aj z z<|At hC12 4 z z Bq z z<|Ab<|tg 32 z z z z (CZ Ah g2 z)<|Aj z z<|Bo Ah g2 z z<|Ab<|tg 33 z z z z (fl_geq z z)<|Aj z z<|C7 z z z<|Ab<|tg 34 z z z z (C9 z z)<|Aj z z<|AX z z z<|Ab<|tq 35 z z z z<|dn<|?_
   obtain rfl:=Aa hr2
   exact Ay (l':=[(4,(ptr b1 0)),(5,(ptr b2 0)),(6,(ptr b3 0)),(8,(ptr b4 0)),(47,(.bool (decide (24 ≤ (List.length a2.1:Int)))))]) ⟨z,z,z,z,z,Am⟩<|⟨(decide (24 ≤ (List.length a2.1:Int))),z,z,((((Ao hB7).then hB8).then hB9).then hB12).below,hC12⟩
  replace hr2:=AG hr2 hc5
  refine sk 30 z z z z z<|sk 31 z z z z z<|sk 32 z z z z z<|sk 33 z z z z z<|tg 34 z z z z (CA z z)<|Aj z z<|AH z z z<|Ab<|tq 35 z z z z<|dn<|?_
  obtain rfl:=Aa hr2
  exact Ay (l':=[(4,(ptr b1 0)),(5,(ptr b2 0)),(6,(ptr b3 0)),(8,(ptr b4 0)),(47,(.bool false))]) ⟨z,z,z,z,z,Am⟩<|⟨false,z,z,((((Ao hB7).then hB8).then hB9).then hB12).below,hC12⟩
 rintro _ w7 ⟨x2,rfl,rfl,hB6,hC8⟩
 try dsimp only at hF
 refine AN z (fun hc6=>?_) (fun hc6=>?_)
 ·replace hF:=AF hF hc6
  refine Ad<|Ar [v2,(I x1.2)] hC8 0 z z z A9 Aw z z<|Al (cs':=[v2,(I x1.2)]) (new:=[v2,(I x1.2)]) hC8 2 z z (fac (AP (hC8.ro 1 z))<|fac z<|fa0) z Aw z z fun w15 hC13 hKp2=>?_
  try dsimp only [List.set] at hC13
  have hk6:=Ak (hk1.then hB6) (Ai ((Ao hB1).then hB2).size hN3) hKp2
  have hk7:=Ak (hk2.then hB6) (Ai (Ao hB2).size hN3) hKp2
  have hk8:=Ak (hk3.then hB6) hN3 hKp2
  refine Ag z z<|Ab<|AL<|A7<|?_
  obtain rfl:=Aa hF
  refine C4 z (rv_cell_agg (cs':=[v2,(I x1.2)]) hC13 (i:=2) z z z A9 Aw z) (rv_tmp z) ?_
  have hC14:=hC13.triv (Ci (false))
  have hC16:=hC14.f2
  have hC15:=Cl v2 x1.1 x1.2 hC16
  exact ⟨_,z,res2_of hC15⟩
 replace hF:=AG hF hc6
 refine AR<|Ax<|Ad<|fd A1 Az z z z z<|At hC8 4 z z AA z z<|By z z z<|fd A1 Az z z z z<|Br (cs':=[v2,(I (w64 (a2.2+1)))]) hC8 0 z z z z Az z z fun w16 hC17 hKp3=>?_
 try dsimp only [List.set] at hC17
 have hk9:=Ak (hk1.then hB6) (Ai ((((Ao hB1).then hB2).then hB3).then hB4).size hN4) hKp3
 have hk10:=Ak (hk2.then hB6) (Ai (((Ao hB2).then hB3).then hB4).size hN4) hKp3
 have hk11:=Ak (hk3.then hB6) (Ai ((Ao hB3).then hB4).size hN4) hKp3
 have hk12:=Ak (hk4.then hB6) (Ai (Ao hB4).size hN4) hKp3
 have hk13:=Ak (hk5.then hB6) hN4 hKp3
 refine Ab<|AC<|Ad<|fd Bk BT z z z z<|At hC17 3 z z Co z z<|Ab<|AN z (fun hc7=>?_) (fun hc7=>?_)
 ·replace hF:=AF hF hc7
  refine Ad<|fd A1 AV z z z z<|At hC17 4 z z Bq z z<|fd Bk AI z z z z<|Ar [(I a3.2.1),u3] hC17 3 z z z Bu AI z z<|be hF fun x6 hr6 hF=>A8 Tryz.call41 z z (c_S_AddFact a2.1 u2 (g2.now hC17.keep) (a3.2.1,a3.2.2) u3 (g3.now hC17.keep) x6 hr6)<|?_
  rintro v3 w17 ⟨hB13,F2,hv5,hn3,hb3⟩
  have hC18:=hC17.push hB13 (A:=Ae v3 x6) hv5 hn3 hb3
  refine fd A1 AV z z z z<|Br (cs':=[v3,(I (w64 (a2.2+1)))]) hC18 1 z z (AP (hC18.ro 0 z)) z AV z z fun w18 hC19 hKp4=>?_
  try dsimp only [List.set] at hC19
  have hk14:=Ak (hk9.then hB13) (Ai ((((Ao hB1).then hB2).then hB3).then hB4).size hN4) hKp4
  have hk15:=Ak (hk10.then hB13) (Ai (((Ao hB2).then hB3).then hB4).size hN4) hKp4
  have hk16:=Ak (hk11.then hB13) (Ai ((Ao hB3).then hB4).size hN4) hKp4
  have hk17:=Ak (hk12.then hB13) (Ai (Ao hB4).size hN4) hKp4
  have hk18:=Ak (hk13.then hB13) hN4 hKp4
  refine Ab<|Ad<|Ar [v3,(I (w64 (a2.2+1)))] hC19 1 z z z A9 Aw z z<|Al (cs':=[v3,(I (w64 (a2.2+1)))]) (new:=[v3,(I (w64 (a2.2+1)))]) hC19 3 z z (fac (AP (hC19.ro 0 z))<|fac z<|fa0) z Aw z z fun w19 hC20 hKp5=>?_
  try dsimp only [List.set] at hC20
  have hk19:=Ak hk14 (Ai ((Ao hB1).then hB2).size hN3) hKp5
  have hk20:=Ak hk15 (Ai (Ao hB2).size hN3) hKp5
  have hk21:=Ak hk16 hN3 hKp5
  refine Ag z z<|Ab<|AL<|A7<|?_
  obtain rfl:=Aa hF
  refine C4 z (rv_cell_agg (cs':=[v3,(I (w64 (a2.2+1)))]) hC20 (i:=3) z z z A9 Aw z) (rv_tmp z) ?_
  have hC21:=hC20.triv (Ci (true))
  have hC23:=hC21.f1
  have hC22:=Cl v3 x6 (w64 (a2.2+1)) hC23
  exact ⟨_,z,res2_of hC22⟩
 replace hF:=AG hF hc7
 refine AR<|Ax<|Ad<|AK (vs:=[]) hC17 Ah ty29 z z z z (by simp) z z fun b5 w20 hC24 hB14=>?_
 have hC25:=hC24.row0 (α:=(Int × (List Int)))
 have hC26:=hC25.front 1 z
 dsimp only [List.eraseIdx,List.cons_append,List.nil_append,List.append_nil] at hC26
 have hC27:Ctx [] w0 w20 (Ae (.slice (some ⟨b5,0,none⟩) 0 0) (([]:List (Int × (List Int))):List (Int × (List Int)))::[Ac b4 [v2,(I (w64 (a2.2+1)))],Ae v2 (x1.1:(List (Int × (List Int)))),Ac b3 [(.slice none 0 0),(I 0)],Ac b2 [(.bool a3.1),(I a3.2.1),u3],Ac b1 [u2,(I a2.2)]]):=hC26.rowOwn (by simp [maxLen])
 refine fd A1 AV z z z z<|Br (cs':=[(.slice (some ⟨b5,0,none⟩) 0 0),(I (w64 (a2.2+1)))]) hC27 1 z z (AP (hC27.ro 0 z)) z AV z z fun w21 hC28 hKp6=>?_
 try dsimp only [List.set] at hC28
 have hk22:=Ak (hk9.then hB14) (Ai ((((Ao hB1).then hB2).then hB3).then hB4).size hN4) hKp6
 have hk23:=Ak (hk10.then hB14) (Ai (((Ao hB2).then hB3).then hB4).size hN4) hKp6
 have hk24:=Ak (hk11.then hB14) (Ai ((Ao hB3).then hB4).size hN4) hKp6
 have hk25:=Ak (hk12.then hB14) (Ai (Ao hB4).size hN4) hKp6
 have hk26:=Ak (hk13.then hB14) hN4 hKp6
 refine Ab<|AC<|Ad<|Ag z z<|Ab<|be hF fun r2 hr7 hF=>Bv (fun l w=>∃v5:Value,∃x10:(List (Int × (List Int))),∃x11:Int,(x10,x11)=r2∧l=[(6,(ptr b3 0)),(8,(ptr b4 0))]∧Ctx [] w0 w [Ae v5 (x10:(List (Int × (List Int)))),Ac b4 [v5,(I x11)],Ac b3 [(.slice none 0 0),(I 0)]]) ?_ ?_
 ·refine Bb<|have hC52:=hC28.f5;have hC53:=hC52.f5;have hC54:=hC53.f5;have hC55:=hC54.f4;have hC56:=hC55.f4;have hC57:=hC56.h5;wS (l':=[(4,(ptr b1 0)),(5,(ptr b2 0)),(6,(ptr b3 0)),(8,(ptr b4 0)),(9,(I 0))]) ⟨z,z,z,z,z,Am⟩<|BC (fun k l w=>∃v4:Value,∃x7:(List (Int × (List Int))),∃x8:Int,∃x9:Int,l=[(4,(ptr b1 0)),(5,(ptr b2 0)),(6,(ptr b3 0)),(8,(ptr b4 0)),(9,(I x9))]∧Ctx [] w0 w [Ae v4 (x7:(List (Int × (List Int)))),Ac b4 [v4,(I x8)],Ac b3 [(.slice none 0 0),(I 0)],Ac b2 [(.bool a3.1),(I a3.2.1),u3],Ac b1 [u2,(I a2.2)]]∧S.ApplyChange_l1 a2 a3 k x7 x8 x9=some r2) FUEL ⟨(.slice (some ⟨b5,0,none⟩) 0 0),([]:List (Int × (List Int))),w64 (a2.2+1),0,z,hC57,hr7⟩<|?_
  clear hr7
  rintro k1 _ w22 ⟨v4,x7,x8,x9,rfl,hC29,hL1⟩
  cases k1 with
  | zero=>rw [S.ApplyChange_l1] at hL1; cases hL1
  | succ k1 =>
   rw [S.ApplyChange_l1] at hL1
   refine AC<|Ad<|Af z z<|fd A1 AV z z z z<|At hC29 4 z z Bq z z<|Bo Ah g2 z z<|B6 z z z<|Ab<|AN z (fun hc8=>?_) (fun hc8=>?_)
   ·replace hL1:=AF hL1 hc8
    refine AR<|Ax<|AC<|Bb<|AC<|W_drawn 9 z hmix fun w23 hB16=>have hC30:=hC29.grow hB16;tf 0 A1 AV z z z z z<|tm 2 z z z<|tf 5 Bk AI z z z z z<|be hL1 fun x12 hx1 hL1=>wAS (l':=[(4,(ptr b1 0)),(5,(ptr b2 0)),(6,(ptr b3 0)),(8,(ptr b4 0)),(9,(I x9)),(64,(I x9)),(65,(ptr b1 0)),(66,u2),(67,(I (List.length a2.1:Int))),(68,(.bool (decide (x9 < (List.length a2.1:Int))))),(71,(ptr b1 0)),(73,(I x9)),(76,(ptr b2 1))]) ⟨z,z,z,z,z,z,z,z,z,z,z,z,z,Am⟩<|Bm [⟨1,[],fun vs=>AU u2,[]⟩,⟨3,[],fun vs=>Ce [] w0 x12,[]⟩,⟨4,[],fun vs=>Cw [] w0 x12,[]⟩,⟨6,[],fun vs=>AU (.agg #[(I a3.2.1),u3]),[]⟩] [[],[1],[3],[]] 2 z (by kernel_rfl) (by kernel_rfl) z ?_ ?_
    ·refine An z ?_ ?_
     ·intro w24 hB17
      refine Av<|⟨_,z,?_⟩
      exact At (hC30.grow hB17) 4 z z Bq z z<|Ab<|A0 (Aq _ _) z z ⟨z,z⟩
     refine An z ?_ ?_
     ·intro w24 hB17
      refine A6 z z z ?_
      rintro _ _ ⟨rfl,rfl⟩ _
      refine Av<|⟨_,z,?_⟩
      exact Bc Ah ty29 g2 hx1 z z z fun b6 o1 h1=>Ab<|A0 (Aq _ _) z z ⟨z,_,_,z,h1⟩
     refine An z ?_ ?_
     ·intro w24 hB17
      refine A6 z z z ?_
      rintro _ _ ⟨rfl,b6,o1,rfl,h1⟩ _
      refine Av<|⟨_,z,?_⟩
      exact Bf ty29 h1 (hC30.keep.then hB17) z z fun v8 h4=>Ab<|A0 (Aq _ _) z z ⟨z,h4⟩
     refine An z ?_ ?_
     ·intro w24 hB17
      refine Av<|⟨_,z,?_⟩
      exact Ar [(I a3.2.1),u3] (hC30.grow hB17) 3 z z z Bu AI z z<|Ab<|A0 (Aq _ _) z z ⟨z,z⟩
     exact Bd
    intro w25 hB18
    refine Au z z z ?_
    rintro _ _ ⟨rfl,rfl⟩
    refine Au z z z ?_
    rintro _ _ ⟨rfl,b6,o1,rfl,h1⟩
    refine Au z z z ?_
    rintro v8 _ ⟨rfl,h4⟩
    obtain ⟨v7,rfl,h3⟩:=BJ h4
    refine Au z z z ?_
    rintro _ _ ⟨rfl,rfl⟩
    refine Bn fun hn4 hb4=>have hC31:=hC30.grow hB18;be hL1 fun x13 hr8 hL1=>oe 7 z<|ci CE z z (c_S_CompareFacts x12 v7 (h3.now hC31.keep) (a3.2.1,a3.2.2) u3 (g3.now hC31.keep) x13 hr8) fun w26 hB19=>have hC32:=hC31.grow hB19;Ab<|tk 8 z z (CT z z)<|Cp z z z<|Ab<|dn<|Ax<|be hL1 fun r3 hr9 hL1=>Bv (fun l w=>∃v9:Value,∃x14:(List (Int × (List Int))),∃x15:Int,(x14,x15)=r3∧l=[(4,(ptr b1 0)),(5,(ptr b2 0)),(6,(ptr b3 0)),(8,(ptr b4 0)),(9,(I x9))]∧Ctx [] w0 w [Ae v9 (x14:(List (Int × (List Int)))),Ac b4 [v9,(I x15)],Ac b3 [(.slice none 0 0),(I 0)],Ac b2 [(.bool a3.1),(I a3.2.1),u3],Ac b1 [u2,(I a2.2)]]) ?_ ?_
    ·refine AN z (fun hc9=>?_) (fun hc9=>?_)
     ·replace hr9:=AF hr9 hc9
      refine W_drawn 19 z hmix fun w28 hB21=>have hC34:=hC32.grow hB21;tf 0 A1 AV z z z z z<|tf 2 A1 AV z z z z z<|tm 4 z z z<|tf 8 A1 AV z z z z z<|tm 10 z z z<|be hr9 fun x16 hx2 hr9=>be hr9 fun x17 hx3 hr9=>be hr9 fun x18 hr10 hr9=>wAS (l':=[(4,(ptr b1 0)),(5,(ptr b2 0)),(6,(ptr b3 0)),(8,(ptr b4 0)),(9,(I x9)),(64,(I x9)),(65,(ptr b1 0)),(66,u2),(67,(I (List.length a2.1:Int))),(68,(.bool (decide (x9 < (List.length a2.1:Int))))),(71,(ptr b1 0)),(72,u2),(73,(I x9)),(74,(ptr b6 o1)),(75,(.agg #[(I x12.1),v7])),(76,(ptr b2 1)),(77,(.agg #[(I a3.2.1),u3])),(78,(I x13)),(79,(.bool (!decide (x13=0)))),(80,(ptr b4 0)),(82,(ptr b1 0)),(84,(I x9)),(88,(ptr b1 0)),(90,(I x9))]) ⟨z,z,z,z,z,z,z,z,z,z,z,z,z,z,z,z,z,z,z,z,z,z,z,z,Am⟩<|Bm [⟨1,[],fun vs=>AU v4,[]⟩,⟨3,[],fun vs=>AU u2,[]⟩,⟨5,[],fun vs=>Ce [] w0 x16,[]⟩,⟨6,[],fun vs=>Ce [] w0 x16.1,[]⟩,⟨7,[],fun vs=>AU (I x16.1),[]⟩,⟨9,[],fun vs=>AU u2,[]⟩,⟨11,[],fun vs=>Ce [] w0 x17,[]⟩,⟨12,[],fun vs=>Ce [] w0 x17.2,[]⟩,⟨13,[],fun vs=>Cw [] w0 x17.2,[]⟩,⟨14,[],fun vs=>Ct x18,[]⟩,⟨15,[],fun vs=>Ct ([(x18.1,x18.2)]:(List (Int × (List Int)))),[14]⟩] [[],[],[3],[5],[6],[],[9],[11],[12],[7,13],[]] 3 z (by kernel_rfl) (by kernel_rfl) z ?_ ?_
      ·refine An z ?_ ?_
       ·intro w31 hB24
        refine Av<|⟨_,z,?_⟩
        exact At (hC34.grow hB24) 1 z z Bq z z<|Ab<|A0 (Aq _ _) z z ⟨z,z⟩
       refine An z ?_ ?_
       ·intro w31 hB24
        refine Av<|⟨_,z,?_⟩
        exact At (hC34.grow hB24) 4 z z Bq z z<|Ab<|A0 (Aq _ _) z z ⟨z,z⟩
       refine An z ?_ ?_
       ·intro w31 hB24
        refine A6 z z z ?_
        rintro _ _ ⟨rfl,rfl⟩ _
        refine Av<|⟨_,z,?_⟩
        exact Bc Ah ty29 g2 hx2 z z z fun b7 o2 h5=>Ab<|A0 (Aq _ _) z z ⟨z,_,_,z,h5⟩
       refine An z ?_ ?_
       ·intro w31 hB24
        refine A6 z z z ?_
        rintro _ _ ⟨rfl,b7,o2,rfl,h5⟩ _
        refine Av<|⟨_,z,?_⟩
        exact fd A3 Az z z z z<|Ab<|A0 (Aq _ _) z z ⟨z,_,_,z,h5.fst⟩
       refine An z ?_ ?_
       ·intro w31 hB24
        refine A6 z z z ?_
        rintro _ _ ⟨rfl,b8,o3,rfl,h6⟩ _
        refine Av<|⟨_,z,?_⟩
        refine Bf ty3 h6 (hC34.keep.then hB24) z z (fun v10 h7=>?_)
        obtain rfl:=BG h7
        exact Ab<|A0 (Aq _ _) z z ⟨z,z⟩
       refine An z ?_ ?_
       ·intro w31 hB24
        refine Av<|⟨_,z,?_⟩
        exact At (hC34.grow hB24) 4 z z Bq z z<|Ab<|A0 (Aq _ _) z z ⟨z,z⟩
       refine An z ?_ ?_
       ·intro w31 hB24
        refine A6 z z z ?_
        rintro _ _ ⟨rfl,rfl⟩ _
        refine Av<|⟨_,z,?_⟩
        exact Bc Ah ty29 g2 hx3 z z z fun b9 o4 h8=>Ab<|A0 (Aq _ _) z z ⟨z,_,_,z,h8⟩
       refine An z ?_ ?_
       ·intro w31 hB24
        refine A6 z z z ?_
        rintro _ _ ⟨rfl,b9,o4,rfl,h8⟩ _
        refine Av<|⟨_,z,?_⟩
        exact fd A3 A2 z z z z<|Ab<|A0 (Aq _ _) z z ⟨z,_,_,z,h8.snd⟩
       refine An z ?_ ?_
       ·intro w31 hB24
        refine A6 z z z ?_
        rintro _ _ ⟨rfl,b10,o5,rfl,h9⟩ _
        refine Av<|⟨_,z,?_⟩
        exact Bf ty24 h9 (hC34.keep.then hB24) z z fun v11 h10=>Ab<|A0 (Aq _ _) z z ⟨z,h10⟩
       refine An z ?_ ?_
       ·intro w31 hB24
        refine A6 z z z ?_
        rintro _ _ ⟨rfl,rfl⟩ _
        refine A6 z z z ?_
        rintro v11 _ ⟨rfl,h10⟩ _
        refine Av<|⟨_,z,?_⟩
        refine A8 C1 z z (c_S_l2One x16.1 x17.2 v11 (h10.now (hC34.keep.then hB24)) x18 hr10) ?_
        rintro v12 w29 ⟨hB22,F3,hv7,hn5,hb5⟩
        exact Ab<|Cn hB22 z z hv7 hn5 hb5 (Val.inh hv7)
       refine StepsE_use z z z ?_ ?_
       ·intro w31 hB24
        refine Av<|⟨_,_,z,z,?_⟩
        intro v12 F3 hv7 ho1
        have hC35:=Ctx.local hv7 ho1
        obtain ⟨v14,rfl,hC36⟩:=st29_own hC35
        refine AK (vs:=[(.agg #[(I x18.1),v14])]) hC36 Ah ty29 z z z z (fac z<|fa0) z z (fun b11 w30 hC37 hB23=>?_)
        have hC38:=hC37.row0 (α:=(Int × (List Int)))
        have hC40:=hC38.f2
        have hC39:=Cf x18.1 v14 x18.2 hC40
        have hC41:=hC39.row1
        have hC42:=hC41.front 1 z
        dsimp only [List.eraseIdx,List.cons_append,List.nil_append,List.append_nil] at hC42
        have hC43:Ctx F3 w31 w30 (Ae (.slice (some ⟨b11,0,none⟩) 1 1) ([(x18.1,x18.2)]:List (Int × (List Int)))::[]):=hC42.rowOwn (by simp [maxLen])
        exact Ab<|C2 hC43 z z (fun F h=>h)
       exact Bd
      intro w32 hB25
      refine Au z z z ?_
      rintro _ _ ⟨rfl,rfl⟩
      refine Au z z z ?_
      rintro _ _ ⟨rfl,rfl⟩
      refine Au z z z ?_
      rintro _ _ ⟨rfl,b7,o2,rfl,h5⟩
      refine Au z z z ?_
      rintro _ _ ⟨rfl,b8,o3,rfl,h6⟩
      refine Au z z z ?_
      rintro _ _ ⟨rfl,rfl⟩
      refine Au z z z ?_
      rintro _ _ ⟨rfl,rfl⟩
      refine Au z z z ?_
      rintro _ _ ⟨rfl,b9,o4,rfl,h8⟩
      refine Au z z z ?_
      rintro _ _ ⟨rfl,b10,o5,rfl,h9⟩
      refine Au z z z ?_
      rintro v11 _ ⟨rfl,h10⟩
      refine AllE_skip z<|Au z z z fun v15 F4 hv8=>Bn fun hn6 hb6=>?_
      have hC44:=hC34.pushL hB25 (Bs:=[Ae v15 ([(x18.1,x18.2)]:(List (Int × (List Int))))]) (Fs:=[F4]) ⟨F4,_,z,hv8,z⟩ (by simpa using hn6) (fun b h=>(hb6 b (by simpa using h)).1)
      refine be hr9 fun x19 hx4 hr9=>oe 16 z<|BH hC44 0 z Ah ty29 z hx4 z z z fun v16 w33 hC45=>?_
      try dsimp only [List.set] at hC45
      refine Ab<|tf 17 A1 AV z z z z z<|oe 18 z<|Br (cs':=[v16,(I x8)]) hC45 1 z z (AP (hC45.ro 0 z)) z AV z z fun w34 hC47 hKp7=>?_
      try dsimp only [List.set] at hC47
      refine Ab<|dn<|?_
      obtain rfl:=Aa hr9
      exact Ay (l':=[(4,(ptr b1 0)),(5,(ptr b2 0)),(6,(ptr b3 0)),(8,(ptr b4 0)),(9,(I x9))]) ⟨z,z,z,z,z,Am⟩<|⟨v16,x19,x8,z,z,hC47⟩
     replace hr9:=AG hr9 hc9
     refine AR ?_
     obtain rfl:=Aa hr9
     exact Ay (l':=[(4,(ptr b1 0)),(5,(ptr b2 0)),(6,(ptr b3 0)),(8,(ptr b4 0)),(9,(I x9))]) ⟨z,z,z,z,z,Am⟩<|⟨v4,x7,x8,z,z,hC32⟩
    rintro l3 _ w27 hs3 ⟨v9,x14,x15,rfl,rfl,hC33⟩
    try dsimp only at hL1
    refine Bi<|Bj hs3<|?_
    clear hs3
    exact Bt<|Af z z<|By z z z<|Ag z z<|Ab<|Ay (l':=[(4,(ptr b1 0)),(5,(ptr b2 0)),(6,(ptr b3 0)),(8,(ptr b4 0)),(9,(I (w64 (x9+1))))]) ⟨z,z,z,z,z,Am⟩<|⟨k1,AS _,v9,x14,x15,w64 (x9+1),z,hC33,hL1⟩
   replace hL1:=AG hL1 hc8
   refine BD (AY (AY (B1 ?_)))
   obtain rfl:=Aa hL1
   have hC48:=hC29.f2
   have hC49:=hC48.f2
   have hC50:=hC49.f2
   have hC51:=hC50.h3
   exact Ay (l':=[(6,(ptr b3 0)),(8,(ptr b4 0))]) ⟨z,z,Am⟩<|⟨v4,x7,x8,z,z,hC51⟩
 rintro l4 _ w35 hs4 ⟨v5,x10,x11,rfl,rfl,hC58⟩
 try dsimp only at hF
 refine Bj hs4 ?_
 clear hs4
 refine Ad<|Ar [v5,(I x11)] hC58 1 z z z A9 Aw z z<|Al (cs':=[v5,(I x11)]) (new:=[v5,(I x11)]) hC58 2 z z (fac (AP (hC58.ro 0 z))<|fac z<|fa0) z Aw z z fun w36 hC59 hKp8=>?_
 try dsimp only [List.set] at hC59
 refine Ag z z<|Ab<|AL<|?_
 obtain rfl:=Aa hF
 refine C4 z (rv_cell_agg (cs':=[v5,(I x11)]) hC59 (i:=2) z z z A9 Aw z) (rv_tmp z) ?_
 have hC60:=hC59.triv (Ci (true))
 have hC62:=hC60.f1
 have hC61:=Cl v5 x10 x11 hC62
 exact ⟨_,z,res2_of hC61⟩
theorem c_S_SameFacts {w0:World} (a1:(List (Int × (List Int)))) (u1:Value) (g1:RO [] w0 u1 a1) (a2:(List (Int × (List Int)))) (u2:Value) (g2:RO [] w0 u2 a2) (rr:Bool) (hF:S.SameFacts a1 a2=some rr) :
 Calls Tryz.prog 9 [u1,u2].toArray w0 fun e w'=>∃v,e=.returned v∧Res w0 rr v w':=by
 refine A4 Tryz.func9 z z ?_
 have hC0:=AD w0
 unfold S.SameFacts at hF
 refine Ad<|Ag z z<|Ab<|AC<|Ad<|Af z z<|Bo Ah g1 z z<|Af z z<|Bo Ah g2 z z<|Cp z z z<|Ab<|AN z (fun hc1=>?_) (fun hc1=>?_)
 ·replace hF:=AF hF hc1
  refine Ad<|Ag z z<|Ab<|AL<|A7<|?_
  obtain rfl:=Aa hF
  exact AE z z<|⟨_,z,Bh hC0 _⟩
 replace hF:=AG hF hc1
 refine AR<|Ax<|AC<|Ad<|Ag z z<|Ab<|be hF fun r1 hr1 hF=>Bv (fun l w=>.inl ()=r1∧l=[]∧Below w0.heap.size w0 w∧Ctx [] w0 w []) ?_ ?_
 ·refine Bb<|wS (l':=[(0,u1),(1,u2),(5,(I 0))]) ⟨z,z,z,Am⟩<|BC (fun k l w=>∃x1:Int,l=[(0,u1),(1,u2),(5,(I x1))]∧Below w0.heap.size w0 w∧Ctx [] w0 w []∧S.SameFacts_l1 a1 a2 k x1=some r1) FUEL ⟨0,z,(Aq _ _),hC0,hr1⟩<|?_
  clear hr1
  rintro k1 _ w1 ⟨x1,rfl,hB1,hC1,hL1⟩
  cases k1 with
  | zero=>rw [S.SameFacts_l1] at hL1; cases hL1
  | succ k1 =>
   rw [S.SameFacts_l1] at hL1
   refine AC<|Ad<|Af z z<|Af z z<|Bo Ah g1 z z<|B6 z z z<|Ab<|AN z (fun hc2=>?_) (fun hc2=>?_)
   ·replace hL1:=AF hL1 hc2
    refine AR<|Ax<|AC<|Bb<|AC<|W_drawn 10 z hmix fun w2 hB2=>have hC2:=hC1.grow hB2;tm 0 z z z<|tm 1 z z z<|be hL1 fun x2 hx1 hL1=>tk 2 z z (BL Ah ty29 g1 hx1 z z)<|Bc Ah ty29 g1 hx1 z z z fun b1 o1 h1=>Ab<|tm 4 z z z<|tm 5 z z z<|be hL1 fun x3 hx2 hL1=>tk 6 z z (BL Ah ty29 g2 hx2 z z)<|Bc Ah ty29 g2 hx2 z z z fun b2 o2 h2=>Ab<|wAS (l':=[(0,u1),(1,u2),(5,(I x1)),(11,(I x1)),(12,u1),(13,(I (List.length a1:Int))),(14,(.bool (decide (x1 < (List.length a1:Int))))),(17,u1),(18,(I x1)),(19,(ptr b1 o1)),(21,u2),(22,(I x1)),(23,(ptr b2 o2))]) ⟨z,z,z,z,z,z,z,z,z,z,z,z,z,Am⟩<|Bm [⟨3,[],fun vs=>Cw [] w0 x2,[]⟩,⟨7,[],fun vs=>Cw [] w0 x3,[]⟩] [[],[]] 2 z (by kernel_rfl) (by kernel_rfl) z ?_ ?_
    ·refine An z ?_ ?_
     ·intro w3 hB3
      refine Av<|⟨_,z,?_⟩
      exact Bf ty29 h1 (hC2.keep.then hB3) z z fun v3 h5=>Ab<|A0 (Aq _ _) z z ⟨z,h5⟩
     refine An z ?_ ?_
     ·intro w3 hB3
      refine Av<|⟨_,z,?_⟩
      exact Bf ty29 h2 (hC2.keep.then hB3) z z fun v6 h8=>Ab<|A0 (Aq _ _) z z ⟨z,h8⟩
     exact Bd
    intro w4 hB4
    refine Au z z z ?_
    rintro v3 _ ⟨rfl,h5⟩
    obtain ⟨v2,rfl,h4⟩:=BJ h5
    refine Au z z z ?_
    rintro v6 _ ⟨rfl,h8⟩
    obtain ⟨v5,rfl,h7⟩:=BJ h8
    refine Bn fun hn1 hb1=>have hC3:=hC2.grow hB4;be hL1 fun x4 hr2 hL1=>oe 8 z<|ci CE z z (c_S_CompareFacts x2 v2 (h4.now hC3.keep) x3 v5 (h7.now hC3.keep) x4 hr2) fun w5 hB5=>have hC4:=hC3.grow hB5;Ab<|tk 9 z z (CT z z)<|Cp z z z<|Ab<|dn<|Ax<|AN z (fun hc3=>?_) (fun hc3=>?_)
    ·replace hL1:=AF hL1 hc3
     refine Ad<|Ag z z<|Ab<|AL<|Bz<|A7<|A7<|Bz<|A7<|A7<|?_
     obtain rfl:=Aa hL1
     dsimp only at hF
     obtain rfl:=Aa hF
     exact AE z z<|⟨_,z,Bh hC4 _⟩
    replace hL1:=AG hL1 hc3
    exact AR<|Bi<|Ax<|Bt<|Af z z<|By z z z<|Ag z z<|Ab<|Ay (l':=[(0,u1),(1,u2),(5,(I (w64 (x1+1))))]) ⟨z,z,z,Am⟩<|⟨k1,AS _,w64 (x1+1),z,((((Ao hB1).then hB2).then hB4).then hB5).below,hC4,hL1⟩
   replace hL1:=AG hL1 hc2
   refine BD (AY (AY (B1 ?_)))
   obtain rfl:=Aa hL1
   exact Ay (l':=[]) Am<|⟨z,z,(Ao hB1).below,hC1⟩
 rintro l2 _ w6 hs2 ⟨rfl,rfl,hB6,hC5⟩
 try dsimp only at hF
 refine Bj hs2 ?_
 clear hs2
 refine Ad<|Ag z z<|Ab<|AL<|?_
 obtain rfl:=Aa hF
 exact AE z z<|⟨_,z,Bh hC5 _⟩
theorem c_S_l25Changes {w0:World} {Dx:List Nat} {wx:World} {Fs:List (List Nat)} (pb1:Nat) (a1:((List UInt8) × Int × Int)) (u1:Value) (g1:RO Fs.flatten w0 u1 a1.1) (a2:(List Int)) (u2:Value) (g2:RO Fs.flatten w0 u2 a2) (a3:((List (Int × (List Int))) × Int)) (u3:Value) (g3:RO Dx wx u3 a3.1) (kx:∀ w,Keep Fs.flatten w0 w → Keep Dx wx w) (hH:Hold [Ac pb1 [u1,(I a1.2.1),(I a1.2.2)]] w0 Fs) (hn:Fs.flatten.Nodup) (rr:((List (Bool × (Int × (List Int)))) × ((List UInt8) × Int × Int))) (hF:S.l25Changes a1 a2 a3=some rr) :
 Calls Tryz.prog 48 [(ptr pb1 0),u2,(.agg #[u3,(I a3.2)])].toArray w0 fun e w'=>∃v,e=.returned v∧∃q0:Value,v=q0∧Ctx Fs.flatten w0 w' [Ae (α:=(List (Ch Dx wx))) q0 rr.1,Ac pb1 [u1,(I rr.2.2.1),(I rr.2.2.2)]]:=by
 refine A4 Tryz.func48 z z ?_
 have hC0:=B4 hH hn
 unfold S.l25Changes at hF
 refine Ad<|B0 (cs:=[u3,(I a3.2)]) hC0 z z z fun b1 w1 hC1 hB1 hN1=>Ag z z<|Ab<|Ad<|AK (vs:=[]) hC1 BQ (tych Dx wx) z z z z (by simp) z z fun b2 w2 hC2 hB2=>?_
 have hC3:=hC2.row0 (α:=(Ch Dx wx))
 have hC4:=hC3.front 1 z
 dsimp only [List.eraseIdx,List.cons_append,List.nil_append,List.append_nil] at hC4
 have hC5:Ctx Fs.flatten w0 w2 (Ae (α:=List (Ch Dx wx)) (.slice (some ⟨b2,0,none⟩) 0 0) ([]:List (Bool × (Int × (List Int))))::[Ac b1 [u3,(I a3.2)],Ac pb1 [u1,(I a1.2.1),(I a1.2.2)]]):=hC4.rowOwn (by simp [maxLen])
 refine Ag z z<|Ab<|AC<|Ad<|Af z z<|be hF fun x1 hr1 hF=>have hC6:=hC5.f2;?_
 obtain ⟨Fs1,hH1,hn1,hF1,hO1,hb1⟩:=AB (As:=[Ae (α:=(List (Ch Dx wx))) (.slice (some ⟨b2,0,none⟩) 0 0) ([]:List (Bool × (Int × (List Int)))),Ac b1 [u3,(I a3.2)]]) [Ac pb1 [u1,(I a1.2.1),(I a1.2.2)]] hC6
 refine A8 Bw z z (c_S_l1Below pb1 (a1.1,a1.2.1,a1.2.2) u1 (AJ g1 hC6.keep hF1) 5 hH1 hn1 x1 hr1) ?_
 rintro _ w3 ⟨rfl,hq1⟩
 have hC7:Ctx Fs.flatten w0 w3 [Ac pb1 [u1,(I x1.2.2.1),(I x1.2.2.2)],Ae (α:=(List (Ch Dx wx))) (.slice (some ⟨b2,0,none⟩) 0 0) ([]:List (Bool × (Int × (List Int)))),Ac b1 [u3,(I a3.2)]]:=hb1 _ _ hq1
 refine Ag z z<|Ab<|be hF fun r1 hr2 hF=>Bv (fun l w=>∃x6:Int,∃x7:Int,∃v2:Value,∃x8:(List (Bool × (Int × (List Int)))),(x6,x7,x8)=r1∧l=[(7,v2)]∧Ctx Fs.flatten w0 w [Ac pb1 [u1,(I x6),(I x7)],Ae (α:=(List (Ch Dx wx))) v2 x8]) ?_ ?_
 ·refine Bb<|wS (l':=[(0,(ptr pb1 0)),(1,u2),(5,(ptr b1 0)),(7,(.slice (some ⟨b2,0,none⟩) 0 0)),(8,(I x1.1))]) ⟨z,z,z,z,z,Am⟩<|BC (fun k l w=>∃x2:Int,∃x3:Int,∃v1:Value,∃x4:(List (Bool × (Int × (List Int)))),∃x5:Int,l=[(0,(ptr pb1 0)),(1,u2),(5,(ptr b1 0)),(7,v1),(8,(I x5))]∧Ctx Fs.flatten w0 w [Ac pb1 [u1,(I x2),(I x3)],Ae (α:=(List (Ch Dx wx))) v1 x4,Ac b1 [u3,(I a3.2)]]∧S.l25Changes_l1 a1 a2 a3 k x2 x3 x4 x5=some r1) FUEL ⟨x1.2.2.1,x1.2.2.2,(.slice (some ⟨b2,0,none⟩) 0 0),([]:List (Bool × (Int × (List Int)))),x1.1,z,hC7,hr2⟩<|?_
  clear hr2
  rintro k1 _ w4 ⟨x2,x3,v1,x4,x5,rfl,hC8,hL1⟩
  cases k1 with
  | zero=>rw [S.l25Changes_l1] at hL1; cases hL1
  | succ k1 =>
   rw [S.l25Changes_l1] at hL1
   refine AC<|Ad<|Af z z<|Cs z z z<|Ab<|AN z (fun hc1=>?_) (fun hc1=>?_)
   ·replace hL1:=AF hL1 hc1
    refine AR<|Ax<|AC<|Bb<|Bt<|Af z z<|Af z z<|Af z z<|Ar [u3,(I a3.2)] hC8 2 z z z A9 Aw z z<|be hL1 fun x9 hr3 hL1=>?_
    obtain ⟨Fs2,hH2,hn2,hF2,hO2,hb2⟩:=AB (As:=[Ae (α:=(List (Ch Dx wx))) v1 x4,Ac b1 [u3,(I a3.2)]]) [Ac pb1 [u1,(I x2),(I x3)]] hC8
    refine A8 CM z z (c_S_l25Change pb1 (a1.1,x2,x3) u1 (AJ g1 hC8.keep hF2) a2 u2 (AJ g2 hC8.keep hF2) (a3.1,a3.2) u3 g3 (fun w h=>kx w (hC8.keep.trans h hF2)) hH2 hn2 x9 hr3) ?_
    rintro v3 w5 ⟨_,rfl,hq2⟩
    have hC9:Ctx Fs.flatten w0 w5 [Ae (α:=(Ch Dx wx)) v3 x9.1,Ac pb1 [u1,(I x9.2.2.1),(I x9.2.2.2)],Ae (α:=(List (Ch Dx wx))) v1 x4,Ac b1 [u3,(I a3.2)]]:=hb2 _ _ hq2
    obtain ⟨v4,rfl,hC10⟩:=ch_own hC9
    refine AK (vs:=[(.agg #[(.bool x9.1.1),(I x9.1.2.1),v4])]) hC10 BQ (tych Dx wx) z z z z (fac z<|fa0) z z (fun b3 w6 hC11 hB4=>?_)
    have hC12:=hC11.row0 (α:=(Ch Dx wx))
    have hC14:=hC12.f2
    have hC13:=own_ch x9.1.1 x9.1.2.1 v4 x9.1.2.2 hC14
    have hC15:=hC13.row1
    have hC16:=hC15.front 1 z
    dsimp only [List.eraseIdx,List.cons_append,List.nil_append,List.append_nil] at hC16
    have hC17:Ctx Fs.flatten w0 w6 (Ae (α:=List (Ch Dx wx)) (.slice (some ⟨b3,0,none⟩) 1 1) ([(x9.1.1,(x9.1.2.1,x9.1.2.2))])::[Ac pb1 [u1,(I x9.2.2.1),(I x9.2.2.2)],Ae (α:=(List (Ch Dx wx))) v1 x4,Ac b1 [u3,(I a3.2)]]):=hC16.rowOwn (by simp [maxLen])
    refine be hL1 fun x10 hx1 hL1=>BH hC17 1 z BQ (tych Dx wx) z hx1 z z z fun v5 w7 hC18=>?_
    try dsimp only [List.set] at hC18
    exact Ag z z<|Ab<|Bi<|Ax<|Bt<|Af z z<|Cb z z z<|Ag z z<|Ab<|Ay (l':=[(0,(ptr pb1 0)),(1,u2),(5,(ptr b1 0)),(7,v5),(8,(I (w64 (x5 - 1))))]) ⟨z,z,z,z,z,Am⟩<|⟨k1,AS _,x9.2.2.1,x9.2.2.2,v5,x10,w64 (x5 - 1),z,hC18,hL1⟩
   replace hL1:=AG hL1 hc1
   refine BD (AY (AY (B1 ?_)))
   obtain rfl:=Aa hL1
   have hC20:=hC8.f1
   have hC21:=hC20.f1
   have hC22:=hC21.h2
   exact Ay (l':=[(7,v1)]) ⟨z,Am⟩<|⟨x2,x3,v1,x4,z,z,hC22⟩
 rintro l2 _ w9 hs2 ⟨x6,x7,v2,x8,rfl,rfl,hC23⟩
 try dsimp only at hF
 refine Bj hs2 ?_
 clear hs2
 refine Ad<|Af z z<|Ag z z<|Ab<|AL<|?_
 obtain rfl:=Aa hF
 exact AE z z<|have hC24:=hC23.f1;⟨_,z,_,z,hC24⟩
theorem c_S_DrawApplyChanges {w0:World} (a1:(List UInt8)) (u1:Value) (g1:RO [] w0 u1 a1) (rr:((List Int) × ((List (Int × (List Int))) × Int) × (List (Bool × (Int × (List Int)))))) (hF:S.DrawApplyChanges a1=some rr) :
 Calls Tryz.prog 13 [u1].toArray w0 fun e w'=>∃v,e=.returned v∧∃q0:Value,∃q1:Value,∃q2:Value,v=(.tuple #[q0,(.agg #[q1,(I rr.2.1.2)]),q2])∧Below w0.heap.size w0 w'∧RO [] w' q0 rr.1∧RO [] w' q1 rr.2.1.1∧RO [] w' q2 rr.2.2:=by
 refine A4 Tryz.func13 z z ?_
 have hC0:=AD w0
 unfold S.DrawApplyChanges at hF
 refine Ad<|Ag z z<|AW hC0 zero27 z z fun b1 w1 hC1 hB1 hN1=>Ag z z<|Ab<|Ad<|Af z z<|be hF fun x1 hr1 hF=>A8 CK z z (c_S_l1New a1 u1 (g1.now hC1.keep) x1 hr1)<|?_
 rintro _ w2 ⟨b2,rfl,hq1⟩
 have hC2:Ctx [] w0 w2 [Ac b2 [u1,(I x1.2.1),(I x1.2.2)],Ac b1 [(.slice none 0 0),(I 0)]]:=hC1.push2 hq1
 refine Ag z z<|Ab<|Ad<|Af z z<|be hF fun x2 hr2 hF=>?_
 obtain ⟨Fs2,hH2,hn2,hF2,hO2,hb2⟩:=AB (As:=[Ac b1 [(.slice none 0 0),(I 0)]]) [Ac b2 [u1,(I x1.2.1),(I x1.2.2)]] hC2
 refine A8 CL z z (c_S_l25Draw b2 (a1,x1.2.1,x1.2.2) u1 (AJ g1 hC2.keep hF2) hH2 hn2 x2 hr2) ?_
 rintro _ w3 ⟨v1,v2,v3,rfl,hq2⟩
 have hC3:Ctx [] w0 w3 [Ae v1 (x2.1:(List Int)),Ae v2 (x2.2.1:(List (Int × (List Int) × Int × Int × Int))),Ae v3 (x2.2.2.1:((List (Int × (List Int))) × Int)),Ac b2 [u1,(I x2.2.2.2.2.1),(I x2.2.2.2.2.2)],Ac b1 [(.slice none 0 0),(I 0)]]:=hb2 _ _ hq2
 have hC4:=hC3.f2
 obtain ⟨v4,rfl,hC5⟩:=st27_own hC4
 have hC6:=hC5.f4
 have hC7:=hC6.f4
 obtain ⟨Fs3,hH3,hn3,hF3,hO3,hb3⟩:=AB (As:=[Ae v4 (x2.2.2.1.1:(List (Int × (List Int)))),Ae v1 (x2.1:(List Int)),Ae v2 (x2.2.1:(List (Int × (List Int) × Int × Int × Int)))]) [Ac b2 [u1,(I x2.2.2.2.2.1),(I x2.2.2.2.2.2)],Ac b1 [(.slice none 0 0),(I 0)]] hC7
 have g2:=hO3 0 _ _ _ z
 have g3:=hO3 1 _ _ _ z
 have g4:=hO3 2 _ _ _ z
 have g5:=AJ g1 hC7.keep hF3
 have hC8:=B4 hH3 hn3
 refine Af z z<|AM z z z<|AM z z z<|AM z z z<|AW hC8 zero27 z z fun b3 w4 hC9 hB2 hN2=>Ag z z<|Ag z z<|Al (cs':=[v4,(I x2.2.2.1.2)]) (new:=[v4,(I x2.2.2.1.2)]) hC9 0 z z (fac (AP g2)<|fac z<|fa0) z Aw z z fun w5 hC10 hKp1=>?_
 try dsimp only [List.set] at hC10
 have hk1:=Ak (Ao hB2) hN2 hKp1
 refine Ab<|AC<|W_drawn 9 z hmix fun w11 hB5=>have hC16:=hC10.grow hB5;tm 0 z z z<|tm 2 z z z<|tm 3 z z z<|BY (i:=1) (j:=4) (by kernel_rfl) z z ?_ ?_
 ·refine Ar [v4,(I x2.2.2.1.2)] hC16 0 z z z A9 Aw z z<|Ab<|oe 4 z<|Ar [v4,(I x2.2.2.1.2)] hC16 0 z z z A9 Aw z z<|Ab<|be hF fun x10 hr5 hF=>oe 5 z<|have hC17:=hC16.f1;?_
  obtain ⟨Fs5,hH5,hn5,hF5,hO5,hb5⟩:=AB (As:=[Ac b3 [v4,(I x2.2.2.1.2)],Ac b1 [(.slice none 0 0),(I 0)]]) [Ac b2 [u1,(I x2.2.2.2.2.1),(I x2.2.2.2.2.2)]] hC17
  refine A8 Tryz.call48 z z (c_S_l25Changes b2 (a1,x2.2.2.2.2.1,x2.2.2.2.2.2) u1 (AJ g5 hC17.keep hF5) x2.1 v1 (AJ g3 hC17.keep hF5) (x2.2.2.1.1,x2.2.2.1.2) v4 g2 (fun w h=>hC17.keep.trans h hF5) hH5 hn5 x10 hr5) ?_
  rintro v9 w12 ⟨_,rfl,hq4⟩
  have hC18:Ctx Fs3.flatten w3 w12 [Ae (α:=(List (Ch Fs3.flatten w3))) v9 x10.1,Ac b2 [u1,(I x10.2.2.1),(I x10.2.2.2)],Ac b3 [v4,(I x2.2.2.1.2)],Ac b1 [(.slice none 0 0),(I 0)]]:=hb5 _ _ hq4
  refine Ab<|ta 6 z z z<|oe 7 z<|Al (cs':=[v4,(I x2.2.2.1.2)]) (new:=[v4,(I x2.2.2.1.2)]) hC18 3 z z (fac (AP g2)<|fac z<|fa0) z Aw z z fun w13 hC19 hKp3=>?_
  try dsimp only [List.set] at hC19
  refine Ab<|ta 8 z z z<|dn<|Ax<|AL<|?_
  obtain rfl:=Aa hF
  exact BS z (rv_tmp z) (rv_cell_agg (cs':=[v4,(I x2.2.2.1.2)]) hC19 (i:=3) z z z A9 Aw z) (rv_tmp z)<|⟨_,z,_,_,_,z,(hb3 _ _ hC19).keep.below,(g3.now hC19.keep),(g2.now hC19.keep),(hC19.roCh 0 z)⟩
 refine Ar [v4,(I x2.2.2.1.2)] hC16 0 z z z A9 Aw z z<|Ab<|BY (i:=1) (j:=5) (by kernel_rfl) z z ?_ ?_
 ·refine Ar [v4,(I x2.2.2.1.2)] hC16 0 z z z A9 Aw z z<|Ab<|be hF fun x10 hr5 hF=>oe 5 z<|have hC17:=hC16.f1;?_
  obtain ⟨Fs5,hH5,hn5,hF5,hO5,hb5⟩:=AB (As:=[Ac b3 [v4,(I x2.2.2.1.2)],Ac b1 [(.slice none 0 0),(I 0)]]) [Ac b2 [u1,(I x2.2.2.2.2.1),(I x2.2.2.2.2.2)]] hC17
  refine A8 Tryz.call48 z z (c_S_l25Changes b2 (a1,x2.2.2.2.2.1,x2.2.2.2.2.2) u1 (AJ g5 hC17.keep hF5) x2.1 v1 (AJ g3 hC17.keep hF5) (x2.2.2.1.1,x2.2.2.1.2) v4 g2 (fun w h=>hC17.keep.trans h hF5) hH5 hn5 x10 hr5) ?_
  rintro v9 w12 ⟨_,rfl,hq4⟩
  have hC18:Ctx Fs3.flatten w3 w12 [Ae (α:=(List (Ch Fs3.flatten w3))) v9 x10.1,Ac b2 [u1,(I x10.2.2.1),(I x10.2.2.2)],Ac b3 [v4,(I x2.2.2.1.2)],Ac b1 [(.slice none 0 0),(I 0)]]:=hb5 _ _ hq4
  refine Ab<|ta 6 z z z<|oe 7 z<|Al (cs':=[v4,(I x2.2.2.1.2)]) (new:=[v4,(I x2.2.2.1.2)]) hC18 3 z z (fac (AP g2)<|fac z<|fa0) z Aw z z fun w13 hC19 hKp3=>?_
  try dsimp only [List.set] at hC19
  refine Ab<|ta 8 z z z<|dn<|Ax<|AL<|?_
  obtain rfl:=Aa hF
  exact BS z (rv_tmp z) (rv_cell_agg (cs':=[v4,(I x2.2.2.1.2)]) hC19 (i:=3) z z z A9 Aw z) (rv_tmp z)<|⟨_,z,_,_,_,z,(hb3 _ _ hC19).keep.below,(g3.now hC19.keep),(g2.now hC19.keep),(hC19.roCh 0 z)⟩
 refine be hF fun x10 hr5 hF=>have hC17:=hC16.f1;?_
 obtain ⟨Fs5,hH5,hn5,hF5,hO5,hb5⟩:=AB (As:=[Ac b3 [v4,(I x2.2.2.1.2)],Ac b1 [(.slice none 0 0),(I 0)]]) [Ac b2 [u1,(I x2.2.2.2.2.1),(I x2.2.2.2.2.2)]] hC17
 refine A8 Tryz.call48 z z (c_S_l25Changes b2 (a1,x2.2.2.2.2.1,x2.2.2.2.2.2) u1 (AJ g5 hC17.keep hF5) x2.1 v1 (AJ g3 hC17.keep hF5) (x2.2.2.1.1,x2.2.2.1.2) v4 g2 (fun w h=>hC17.keep.trans h hF5) hH5 hn5 x10 hr5) ?_
 rintro v9 w12 ⟨_,rfl,hq4⟩
 have hC18:Ctx Fs3.flatten w3 w12 [Ae (α:=(List (Ch Fs3.flatten w3))) v9 x10.1,Ac b2 [u1,(I x10.2.2.1),(I x10.2.2.2)],Ac b3 [v4,(I x2.2.2.1.2)],Ac b1 [(.slice none 0 0),(I 0)]]:=hb5 _ _ hq4
 refine Ab<|ta 6 z z z<|oe 1 z<|Ar [v4,(I x2.2.2.1.2)] hC18 2 z z z A9 Aw z z<|Ab<|oe 7 z<|Al (cs':=[v4,(I x2.2.2.1.2)]) (new:=[v4,(I x2.2.2.1.2)]) hC18 3 z z (fac (AP g2)<|fac z<|fa0) z Aw z z fun w13 hC19 hKp3=>?_
 try dsimp only [List.set] at hC19
 refine Ab<|ta 8 z z z<|dn<|Ax<|AL<|?_
 obtain rfl:=Aa hF
 exact BS z (rv_tmp z) (rv_cell_agg (cs':=[v4,(I x2.2.2.1.2)]) hC19 (i:=3) z z z A9 Aw z) (rv_tmp z)<|⟨_,z,_,_,_,z,(hb3 _ _ hC19).keep.below,(g3.now hC19.keep),(g2.now hC19.keep),(hC19.roCh 0 z)⟩
theorem c_M_ApplyChanges {w0:World} (a1:(List Int)) (u1:Value) (g1:RO [] w0 u1 a1) (a2:((List (Int × (List Int))) × Int)) (u2:Value) (g2:RO [] w0 u2 a2.1) (a3:(List (Bool × (Int × (List Int))))) (u3:Value) (g3:RO [] w0 u3 a3) (rr:((List (Int × (List Int))) × Int)) (hF:M.ApplyChanges a1 a2 a3=some rr) :
 Calls Tryz.prog 14 [u1,(.agg #[u2,(I a2.2)]),u3].toArray w0 fun e w'=>∃v,e=.returned v∧Res w0 rr v w':=by
 refine A4 Tryz.func14 z z ?_
 have hC0:=AD w0
 unfold M.ApplyChanges at hF
 refine Ad<|B0 (cs:=[u2,(I a2.2)]) hC0 z z z fun b1 w1 hC1 hB1 hN1=>AW hC1 zero27 z z fun b2 w2 hC2 hB2 hN2=>Ab<|Ad<|Ar [u2,(I a2.2)] hC2 1 z z z A9 Aw z z<|be hF fun x1 hr1 hF=>A8 Tryz.call32 z z (c_M_copySource (a2.1,a2.2) u2 (g2.now hC2.keep) x1 hr1)<|?_
 rintro v1 w3 ⟨hB3,F1,hv1,hn1,hb1⟩
 have hC3:=hC2.push hB3 (A:=Ae v1 x1) hv1 hn1 hb1
 obtain ⟨v2,rfl,hC4⟩:=st27_own hC3
 refine AW hC4 zero27 z z fun b3 w4 hC5 hB4 hN3=>Al (cs':=[v2,(I x1.2)]) (new:=[v2,(I x1.2)]) hC5 0 z z (fac (AP (hC5.ro 1 z))<|fac z<|fa0) z Aw z z fun w5 hC6 hKp1=>?_
 try dsimp only [List.set] at hC6
 have hk1:=Ak ((((Ao hB1).then hB2).then hB3).then hB4) (Ai (((Ao hB1).then hB2).then hB3).size hN3) hKp1
 have hk2:=Ak (((Ao hB2).then hB3).then hB4) (Ai ((Ao hB2).then hB3).size hN3) hKp1
 have hk3:=Ak ((Ao hB3).then hB4) (Ai (Ao hB3).size hN3) hKp1
 have hk4:=Ak (Ao hB4) hN3 hKp1
 refine Ab<|AC<|Ad<|Af z z<|Bo BQ g3 z z<|Af z z<|Ab<|be hF fun r1 hr2 hF=>Bv (fun l w=>∃v4:Value,∃x5:(List (Int × (List Int))),∃x6:Int,(x5,x6)=r1∧l=[(6,(ptr b2 0)),(7,(ptr b3 0))]∧Ctx [] w0 w [Ac b3 [v4,(I x6)],Ae v4 (x5:(List (Int × (List Int)))),Ac b2 [(.slice none 0 0),(I 0)]]) ?_ ?_
 ·refine Bb<|have hC17:=hC6.f2;have hC18:=hC17.f2;have hC19:=hC18.f2;have hC20:=hC19.h3;wS (l':=[(0,u1),(6,(ptr b2 0)),(7,(ptr b3 0)),(12,u3),(13,(I (List.length a3:Int))),(14,(I 0))]) ⟨z,z,z,z,z,z,Am⟩<|BC (fun k l w=>∃v3:Value,∃x2:(List (Int × (List Int))),∃x3:Int,∃x4:Int,l=[(0,u1),(6,(ptr b2 0)),(7,(ptr b3 0)),(12,u3),(13,(I (List.length a3:Int))),(14,(I x4))]∧Ctx [] w0 w [Ac b3 [v3,(I x3)],Ae v3 (x2:(List (Int × (List Int)))),Ac b2 [(.slice none 0 0),(I 0)]]∧M.ApplyChanges_l1 a3 a1 k x2 x3 x4=some r1) FUEL ⟨v2,x1.1,x1.2,0,z,hC20,hr2⟩<|?_
  clear hr2
  rintro k1 _ w6 ⟨v3,x2,x3,x4,rfl,hC7,hL1⟩
  cases k1 with
  | zero=>rw [M.ApplyChanges_l1] at hL1; cases hL1
  | succ k1 =>
   rw [M.ApplyChanges_l1] at hL1
   refine Ad<|B6 z z z<|Ab<|AC<|AN z (fun hc1=>?_) (fun hc1=>?_)
   ·replace hL1:=AF hL1 hc1
    refine AR<|Ax<|AC<|Bb<|Ad<|be hL1 fun x7 hx1 hL1=>Bc BQ ty31 g3 hx1 z z z fun b4 o1 h1=>Bf ty31 h1 hC7.keep z z fun v5 h2=>?_
    obtain ⟨v6,rfl,h3⟩:=ro_st31 h2
    refine AW hC7 zero31 z z fun b5 w7 hC8 hB6 hN4=>Al (cs':=[(.bool x7.1),(I x7.2.1),v6]) (new:=[(.bool x7.1),(I x7.2.1),v6]) hC8 0 z z (fac z<|fac z<|fac (AP h3)<|fa0) z Bx z z fun w9 hC9 hKp2=>?_
    try dsimp only [List.set] at hC9
    have hk5:=Ak (Ao hB6) hN4 hKp2
    refine Ab<|Bt<|Af z z<|Ar [v3,(I x3)] hC9 1 z z z A9 Aw z z<|Ar [(.bool x7.1),(I x7.2.1),v6] hC9 0 z z z BN Bx z z<|be hL1 fun x8 hr3 hL1=>A8 Tryz.call7 z z (c_M_ApplyChange a1 u1 (g1.now hC9.keep) (x2,x3) v3 ((hC9.ro 2 z).now (Be _ _)) (x7.1,(x7.2.1,x7.2.2)) v6 (h3.now hC9.keep) x8 hr3)<|?_
    rintro _ w10 ⟨hB7,v7,v8,F2,F3,rfl,hv2,hv3,hn2,hb2⟩
    obtain ⟨rfl,rfl⟩:=val_bool hv3
    have hC10:=hC9.pushL hB7 (Bs:=[Ae v7 x8.1]) (Fs:=[F2]) ⟨F2,_,z,hv2,z⟩ (by simpa using hn2) (fun b h=>hb2 b (by simpa using h))
    obtain ⟨v9,rfl,hC11⟩:=st27_own hC10
    refine Af z z<|AM z z z<|AM z z z<|Al (cs':=[v9,(I x8.1.2)]) (new:=[v9,(I x8.1.2)]) hC11 2 z z (fac (AP (hC11.ro 0 z))<|fac z<|fa0) z Aw z z fun w11 hC12 hKp3=>?_
    try dsimp only [List.set] at hC12
    exact Ab<|Bi<|Ax<|Bt<|By z z z<|Af z z<|Ab<|have hC13:=hC12.f4;have hC14:=hC13.f1;have hC15:=hC14.f3;have hC16:=hC15.h3;Ay (l':=[(0,u1),(6,(ptr b2 0)),(7,(ptr b3 0)),(12,u3),(13,(I (List.length a3:Int))),(14,(I (w64 (x4+1))))]) ⟨z,z,z,z,z,z,Am⟩<|⟨k1,AS _,v9,x8.1.1,x8.1.2,w64 (x4+1),z,hC16,hL1⟩
   replace hL1:=AG hL1 hc1
   refine BD (AY (AY (B1 ?_)))
   obtain rfl:=Aa hL1
   exact Ay (l':=[(6,(ptr b2 0)),(7,(ptr b3 0))]) ⟨z,z,Am⟩<|⟨v3,x2,x3,z,z,hC7⟩
 rintro l2 _ w12 hs2 ⟨v4,x5,x6,rfl,rfl,hC21⟩
 try dsimp only at hF
 refine Bj hs2 ?_
 clear hs2
 refine Ad<|Ar [v4,(I x6)] hC21 0 z z z A9 Aw z z<|Al (cs':=[v4,(I x6)]) (new:=[v4,(I x6)]) hC21 2 z z (fac (AP (hC21.ro 1 z))<|fac z<|fa0) z Aw z z fun w13 hC22 hKp4=>?_
 try dsimp only [List.set] at hC22
 refine Ab (AL ?_)
 obtain rfl:=Aa hF
 refine BM z (rv_cell_agg (cs':=[v4,(I x6)]) hC22 (i:=2) z z z A9 Aw z)<|have hC24:=hC22.f1;?_
 have hC23:=Cl v4 x5 x6 hC24
 exact ⟨_,z,Cd hC23 0 z⟩
theorem c_S_ApplyChanges {w0:World} (a1:(List Int)) (u1:Value) (g1:RO [] w0 u1 a1) (a2:((List (Int × (List Int))) × Int)) (u2:Value) (g2:RO [] w0 u2 a2.1) (a3:(List (Bool × (Int × (List Int))))) (u3:Value) (g3:RO [] w0 u3 a3) (rr:((List (Int × (List Int))) × Int)) (hF:S.ApplyChanges a1 a2 a3=some rr) :
 Calls Tryz.prog 15 [u1,(.agg #[u2,(I a2.2)]),u3].toArray w0 fun e w'=>∃v,e=.returned v∧Res w0 rr v w':=by
 refine A4 Tryz.func15 z z ?_
 have hC0:=AD w0
 unfold S.ApplyChanges at hF
 refine Ad<|B0 (cs:=[u2,(I a2.2)]) hC0 z z z fun b1 w1 hC1 hB1 hN1=>AW hC1 zero27 z z fun b2 w2 hC2 hB2 hN2=>Ab<|Ad<|Ar [u2,(I a2.2)] hC2 1 z z z A9 Aw z z<|be hF fun x1 hr1 hF=>A8 Tryz.call39 z z (c_S_l25Copy (a2.1,a2.2) u2 (g2.now hC2.keep) x1 hr1)<|?_
 rintro v1 w3 ⟨hB3,F1,hv1,hn1,hb1⟩
 have hC3:=hC2.push hB3 (A:=Ae v1 x1) hv1 hn1 hb1
 obtain ⟨v2,rfl,hC4⟩:=st27_own hC3
 refine AW hC4 zero27 z z fun b3 w4 hC5 hB4 hN3=>Al (cs':=[v2,(I x1.2)]) (new:=[v2,(I x1.2)]) hC5 0 z z (fac (AP (hC5.ro 1 z))<|fac z<|fa0) z Aw z z fun w5 hC6 hKp1=>?_
 try dsimp only [List.set] at hC6
 have hk1:=Ak ((((Ao hB1).then hB2).then hB3).then hB4) (Ai (((Ao hB1).then hB2).then hB3).size hN3) hKp1
 have hk2:=Ak (((Ao hB2).then hB3).then hB4) (Ai ((Ao hB2).then hB3).size hN3) hKp1
 have hk3:=Ak ((Ao hB3).then hB4) (Ai (Ao hB3).size hN3) hKp1
 have hk4:=Ak (Ao hB4) hN3 hKp1
 refine Ab<|AC<|Ad<|Ag z z<|Ab<|be hF fun r1 hr2 hF=>Bv (fun l w=>∃v4:Value,∃x5:(List (Int × (List Int))),∃x6:Int,(x5,x6)=r1∧l=[(6,(ptr b2 0)),(7,(ptr b3 0))]∧Ctx [] w0 w [Ac b3 [v4,(I x6)],Ae v4 (x5:(List (Int × (List Int)))),Ac b2 [(.slice none 0 0),(I 0)]]) ?_ ?_
 ·refine Bb<|have hC25:=hC6.f2;have hC26:=hC25.f2;have hC27:=hC26.f2;have hC28:=hC27.h3;wS (l':=[(0,u1),(2,u3),(6,(ptr b2 0)),(7,(ptr b3 0)),(8,(I 0))]) ⟨z,z,z,z,z,Am⟩<|BC (fun k l w=>∃v3:Value,∃x2:(List (Int × (List Int))),∃x3:Int,∃x4:Int,l=[(0,u1),(2,u3),(6,(ptr b2 0)),(7,(ptr b3 0)),(8,(I x4))]∧Ctx [] w0 w [Ac b3 [v3,(I x3)],Ae v3 (x2:(List (Int × (List Int)))),Ac b2 [(.slice none 0 0),(I 0)]]∧S.ApplyChanges_l1 a3 a1 k x2 x3 x4=some r1) FUEL ⟨v2,x1.1,x1.2,0,z,hC28,hr2⟩<|?_
  clear hr2
  rintro k1 _ w6 ⟨v3,x2,x3,x4,rfl,hC7,hL1⟩
  cases k1 with
  | zero=>rw [S.ApplyChanges_l1] at hL1; cases hL1
  | succ k1 =>
   rw [S.ApplyChanges_l1] at hL1
   refine AC<|Ad<|Af z z<|Af z z<|Bo BQ g3 z z<|B6 z z z<|Ab<|AN z (fun hc1=>?_) (fun hc1=>?_)
   ·replace hL1:=AF hL1 hc1
    refine AR<|Ax<|AC<|Bb<|be hL1 fun r2 hr3 hL1=>BP (fun l w=>∃b4:Nat,∃v5:Value,∃x7:(List (Int × (List Int))),∃x8:Int,(x7,x8)=r2∧l=[(0,u1),(2,u3),(6,(ptr b2 0)),(7,(ptr b3 0)),(8,(I x4)),(9,(ptr b4 0))]∧Ctx [] w0 w [Ac b4 [v5,(I x8)],Ae v5 (x7:(List (Int × (List Int)))),Ac b3 [v3,(I x3)],Ae v3 (x2:(List (Int × (List Int)))),Ac b2 [(.slice none 0 0),(I 0)]]) ?_ ?_
    ·refine W_drawn 13 z hmix fun w9 hB7=>have hC9:=hC7.grow hB7;tm 0 z z z<|tm 2 z z z<|tm 3 z z z<|be hr3 fun x9 hx1 hr3=>tk 4 z z (BL BQ ty31 g3 hx1 z z)<|Bc BQ ty31 g3 hx1 z z z fun b5 o1 h1=>Ab<|be hr3 fun x10 hr4 hr3=>wAS (l':=[(0,u1),(2,u3),(6,(ptr b2 0)),(7,(ptr b3 0)),(8,(I x4)),(13,(I x4)),(14,u3),(15,(I (List.length a3:Int))),(16,(.bool (decide (x4 < (List.length a3:Int))))),(20,u1),(22,u3),(23,(I x4)),(24,(ptr b5 o1))]) ⟨z,z,z,z,z,z,z,z,z,z,z,z,z,Am⟩<|WA_postsO [⟨1,[],fun vs=>AU (.agg #[v3,(I x3)]),[]⟩,⟨5,[],fun vs=>Cw [] w0 x9,[]⟩,⟨6,[],fun vs=>PW.own2 (x10.1:((List (Int × (List Int))) × Int)) (x10.2:Bool),[]⟩,⟨7,[26],fun vs=>AU (vs.getD 0 undef),[]⟩,⟨8,[19],fun vs=>CW (vs.getD 0 undef) 0,[]⟩,⟨9,[19],fun vs=>CW (vs.getD 0 undef) 1,[]⟩,⟨10,[],fun vs=>PW.box [(.slice none 0 0),(I 0)],[]⟩] [[],[],[1,5],[6],[6,7],[6,7],[]] [9] 2 z (by kernel_rfl) (by kernel_rfl) ?_ ⟨?_,?_,Am⟩
     ·refine An z ?_ ?_
      ·intro w12 hB10
       refine Av<|⟨_,z,?_⟩
       exact Ar [v3,(I x3)] (hC9.grow hB10) 0 z z z A9 Aw z z<|Ab<|A0 (Aq _ _) z z ⟨z,z⟩
      refine An z ?_ ?_
      ·intro w12 hB10
       refine Av<|⟨_,z,?_⟩
       exact Bf ty31 h1 (hC9.keep.then hB10) z z fun v8 h4=>Ab<|A0 (Aq _ _) z z ⟨z,h4⟩
      refine An z ?_ ?_
      ·intro w12 hB10
       refine A6 z z z ?_
       rintro _ _ ⟨rfl,rfl⟩ _
       refine A6 z z z ?_
       rintro v8 _ ⟨rfl,h4⟩ _
       obtain ⟨v7,rfl,h3⟩:=ro_st31 h4
       refine Av<|⟨_,z,?_⟩
       refine A8 Tryz.call8 z z (c_S_ApplyChange a1 u1 (g1.now (hC9.keep.then hB10)) (x2,x3) v3 ((hC9.grow hB10).ro 1 z) x9 v7 (h3.now (hC9.keep.then hB10)) x10 hr4) ?_
       rintro _ w10 ⟨hB8,v9,v10,F2,F3,rfl,hv2,hv3,hn2,hb2⟩
       exact Ab<|Cn (F:=F2 ++ F3) hB8 z z ⟨_,_,_,_,z,z,hv2,hv3⟩ (by simpa using hn2) (fun b h=>hb2 b (by simpa using h)) (fun b h=>by simp only [List.mem_append] at h; rcases h with h | h <;> first | exact Val.inh hv2 b h | exact Val.inh hv3 b h)
      refine An z ?_ ?_
      ·intro w12 hB10
       refine A6 z z z ?_
       rintro _ _ ⟨v9,v10,F2,F3,rfl,rfl,hv2,hv3⟩ _
       obtain ⟨rfl,rfl⟩:=val_bool hv3
       obtain ⟨v11,rfl,h5⟩:=ro_st27 (Cr hv2)
       refine Av<|⟨_,z,?_⟩
       exact Af z z<|Ab<|A0 (Aq _ _) z z ⟨z,z⟩
      refine An z ?_ ?_
      ·intro w12 hB10
       refine A6 z z z ?_
       rintro _ _ ⟨v9,v10,F2,F3,rfl,rfl,hv2,hv3⟩ _
       obtain ⟨rfl,rfl⟩:=val_bool hv3
       obtain ⟨v11,rfl,h5⟩:=ro_st27 (Cr hv2)
       refine A6 z z z ?_
       rintro _ _ ⟨rfl,rfl⟩ _
       refine Av<|⟨_,z,?_⟩
       exact AM z z z<|Ab<|A0 (Aq _ _) z z ⟨⟨_,z,z⟩,z⟩
      refine An z ?_ ?_
      ·intro w12 hB10
       refine A6 z z z ?_
       rintro _ _ ⟨v9,v10,F2,F3,rfl,rfl,hv2,hv3⟩ _
       obtain ⟨rfl,rfl⟩:=val_bool hv3
       obtain ⟨v11,rfl,h5⟩:=ro_st27 (Cr hv2)
       refine A6 z z z ?_
       rintro _ _ ⟨rfl,rfl⟩ _
       refine Av<|⟨_,z,?_⟩
       exact AM z z z<|Ab<|A0 (Aq _ _) z z ⟨⟨_,z,z⟩,z⟩
      refine An z ?_ ?_
      ·intro w12 hB10
       refine Av<|⟨_,z,?_⟩
       exact CV (AD _) zero27 z z fun b6 w11 hC10 hB9=>Ab<|C2 hC10 z z (fun F h=>⟨b6,z,h⟩)
      exact Bd
     ·intro g' hg'
      obtain rfl:g'=2:=hg'
      intro w13 hB11
      refine Au z z z ?_
      rintro _ _ ⟨rfl,rfl⟩
      refine Au z z z ?_
      rintro v8 _ ⟨rfl,h4⟩
      obtain ⟨v7,rfl,h3⟩:=ro_st31 h4
      refine Au z z z ?_
      rintro _ _ ⟨v9,v10,F2,F3,rfl,rfl,hv2,hv3⟩
      obtain ⟨rfl,rfl⟩:=val_bool hv3
      refine Au z z z ?_
      rintro _ _ ⟨rfl,rfl⟩
      refine Au z z z ?_
      rintro _ _ ⟨⟨_,hx2,hx3⟩,rfl⟩
      obtain rfl:=Value.tuple.inj hx2
      obtain rfl:=Aa (show (some v9:Option Value)=some _ from hx3)
      refine Au z z z ?_
      rintro _ _ ⟨⟨_,hx4,hx5⟩,rfl⟩
      obtain rfl:=Value.tuple.inj hx4
      obtain rfl:=Aa (show (some (.bool x10.2):Option Value)=some _ from hx5)
      refine Au z z z ?_
      rintro _ F4 ⟨b6,rfl,hv4⟩
      refine Bn ?_
      intro hn3 hb3
      have hC11:=hC9.pushL hB11 (Bs:=[Ac b6 [(.slice none 0 0),(I 0)],Ae v9 (x10.1:((List (Int × (List Int))) × Int))]) (Fs:=[F4,F2]) ⟨F4,_,z,hv4,F2,_,z,hv2,z⟩ (by simpa using hn3) (fun b h=>(hb3 b (by simpa using h)).1)
      have hC12:=hC11.f1
      obtain ⟨v12,rfl,hC13⟩:=st27_own hC12
      refine oe 11 z<|Al (cs':=[v12,(I x10.1.2)]) (new:=[v12,(I x10.1.2)]) hC13 1 z z (fac (AP (hC13.ro 0 z))<|fac z<|fa0) z Aw z z fun w14 hC14 hKp2=>?_
      try dsimp only [List.set] at hC14
      refine Ab<|ta 12 z z z<|dn<|?_
      obtain rfl:=Aa hr3
      have hC15:=hC14.f4
      have hC16:=hC15.f4
      have hC17:=hC16.f4
      have hC18:=hC17.f3
      have hC19:=hC18.f4
      exact Ay (l':=[(0,u1),(2,u3),(6,(ptr b2 0)),(7,(ptr b3 0)),(8,(I x4)),(9,(ptr b6 0))]) ⟨z,z,z,z,z,z,Am⟩<|⟨b6,v12,x10.1.1,x10.1.2,z,z,hC19⟩
     intro g' hg'
     obtain rfl:g'=3:=hg'
     intro w13 hB11
     refine Au z z z ?_
     rintro _ _ ⟨rfl,rfl⟩
     refine Au z z z ?_
     rintro v8 _ ⟨rfl,h4⟩
     obtain ⟨v7,rfl,h3⟩:=ro_st31 h4
     refine Au z z z ?_
     rintro _ _ ⟨v9,v10,F2,F3,rfl,rfl,hv2,hv3⟩
     obtain ⟨rfl,rfl⟩:=val_bool hv3
     refine Au z z z ?_
     rintro _ _ ⟨rfl,rfl⟩
     refine Au z z z ?_
     rintro _ _ ⟨⟨_,hx2,hx3⟩,rfl⟩
     obtain rfl:=Value.tuple.inj hx2
     obtain rfl:=Aa (show (some v9:Option Value)=some _ from hx3)
     refine Au z z z ?_
     rintro _ F4 ⟨b6,rfl,hv4⟩
     refine Bn ?_
     intro hn3 hb3
     have hC11:=hC9.pushL hB11 (Bs:=[Ac b6 [(.slice none 0 0),(I 0)],Ae v9 (x10.1:((List (Int × (List Int))) × Int))]) (Fs:=[F4,F2]) ⟨F4,_,z,hv4,F2,_,z,hv2,z⟩ (by simpa using hn3) (fun b h=>(hb3 b (by simpa using h)).1)
     have hC12:=hC11.f1
     obtain ⟨v12,rfl,hC13⟩:=st27_own hC12
     refine tk 9 z z (BX z z)<|AM z z z<|Ab<|oe 11 z<|Al (cs':=[v12,(I x10.1.2)]) (new:=[v12,(I x10.1.2)]) hC13 1 z z (fac (AP (hC13.ro 0 z))<|fac z<|fa0) z Aw z z fun w14 hC14 hKp2=>?_
     try dsimp only [List.set] at hC14
     refine Ab<|ta 12 z z z<|dn<|?_
     obtain rfl:=Aa hr3
     have hC15:=hC14.f4
     have hC16:=hC15.f4
     have hC17:=hC16.f4
     have hC18:=hC17.f3
     have hC19:=hC18.f4
     exact Ay (l':=[(0,u1),(2,u3),(6,(ptr b2 0)),(7,(ptr b3 0)),(8,(I x4)),(9,(ptr b6 0))]) ⟨z,z,z,z,z,z,Am⟩<|⟨b6,v12,x10.1.1,x10.1.2,z,z,hC19⟩
    rintro _ w7 ⟨b4,v5,x7,x8,rfl,rfl,hC8⟩
    try dsimp only at hL1
    refine Bt<|Ar [v5,(I x8)] hC8 0 z z z A9 Aw z z<|Al (cs':=[v5,(I x8)]) (new:=[v5,(I x8)]) hC8 2 z z (fac (AP (hC8.ro 1 z))<|fac z<|fa0) z Aw z z fun w15 hC20 hKp3=>?_
    try dsimp only [List.set] at hC20
    exact Ab<|Bi<|Ax<|Bt<|Af z z<|By z z z<|Ag z z<|Ab<|have hC21:=hC20.f4;have hC22:=hC21.f2;have hC23:=hC22.f3;have hC24:=hC23.h3;Ay (l':=[(0,u1),(2,u3),(6,(ptr b2 0)),(7,(ptr b3 0)),(8,(I (w64 (x4+1))))]) ⟨z,z,z,z,z,Am⟩<|⟨k1,AS _,v5,x7,x8,w64 (x4+1),z,hC24,hL1⟩
   replace hL1:=AG hL1 hc1
   refine BD (AY (AY (B1 ?_)))
   obtain rfl:=Aa hL1
   exact Ay (l':=[(6,(ptr b2 0)),(7,(ptr b3 0))]) ⟨z,z,Am⟩<|⟨v3,x2,x3,z,z,hC7⟩
 rintro l3 _ w16 hs3 ⟨v4,x5,x6,rfl,rfl,hC29⟩
 try dsimp only at hF
 refine Bj hs3 ?_
 clear hs3
 refine Ad<|Ar [v4,(I x6)] hC29 0 z z z A9 Aw z z<|Al (cs':=[v4,(I x6)]) (new:=[v4,(I x6)]) hC29 2 z z (fac (AP (hC29.ro 1 z))<|fac z<|fa0) z Aw z z fun w17 hC30 hKp4=>?_
 try dsimp only [List.set] at hC30
 refine Ab (AL ?_)
 obtain rfl:=Aa hF
 refine BM z (rv_cell_agg (cs':=[v4,(I x6)]) hC30 (i:=2) z z z A9 Aw z)<|have hC32:=hC30.f1;?_
 have hC31:=Cl v4 x5 x6 hC32
 exact ⟨_,z,Cd hC31 0 z⟩
theorem c_S_l5Access {w0:World} {Fs:List (List Nat)} (pb1:Nat) (a1:((List UInt8) × Int × Int)) (u1:Value) (g1:RO Fs.flatten w0 u1 a1.1) (a2:(List (Int × (List Int) × Int × Int × Int))) (u2:Value) (g2:RO Fs.flatten w0 u2 a2) (hH:Hold [Ac pb1 [u1,(I a1.2.1),(I a1.2.2)]] w0 Fs) (hn:Fs.flatten.Nodup) (rr:((Int × (List Int)) × ((List UInt8) × Int × Int))) (hF:S.l5Access a1 a2=some rr) :
 Calls Tryz.prog 54 [(ptr pb1 0),u2].toArray w0 fun e w'=>∃v,e=.returned v∧∃q0:Value,v=q0∧Ctx Fs.flatten w0 w' [Ae q0 (rr.1:(Int × (List Int))),Ac pb1 [u1,(I rr.2.2.1),(I rr.2.2.2)]]:=by
 refine A4 Tryz.func54 z z ?_
 have hC0:=B4 hH hn
 unfold S.l5Access at hF
 refine Ad<|AW hC0 zero45 z z fun b1 w1 hC1 hB1 hN1=>Ab<|AC<|Ad<|Af z z<|Bo Bl g2 z z<|BO z z z<|Ab<|AN z (fun hc1=>?_) (fun hc1=>?_)
 ·replace hF:=AF hF hc1
  refine Ad<|BB (vs:=[]) z z z built45<|Al (cs':=[(I 0),(.slice none 0 0)]) (new:=[(I 0),(.slice none 0 0)]) hC1 0 z z (fac z<|fac z<|fa0) z Ba z z fun w2 hC2 hKp1=>?_
  try dsimp only [List.set] at hC2
  have hk1:=Ak (Ao hB1) hN1 hKp1
  refine Ab (AL (A7 ?_))
  obtain rfl:=Aa hF
  refine BM z (rv_cell_agg (cs':=[(I 0),(.slice none 0 0)]) hC2 (i:=0) z z z B8 Ba z)<|have hC3:=hC2.f1;?_
  have hC5:=hC3.triv (nil_val (α:=Int))
  have hC4:=CS 0 (.slice none 0 0) ([]) hC5
  have hC6:=hC4.h2
  exact ⟨_,z,_,z,hC6⟩
 replace hF:=AG hF hc1
 refine AR<|Ax<|Ad<|Af z z<|Af z z<|Bo Bl g2 z z<|be hF fun x1 hr1 hF=>have hC7:=hC1.f1;?_
 obtain ⟨Fs1,hH1,hn1,hF1,hO1,hb1⟩:=AB (As:=[Ac b1 [(I 0),(.slice none 0 0)]]) [Ac pb1 [u1,(I a1.2.1),(I a1.2.2)]] hC7
 refine A8 Bw z z (c_S_l1Below pb1 (a1.1,a1.2.1,a1.2.2) u1 (AJ g1 hC7.keep hF1) (List.length a2:Int) hH1 hn1 x1 hr1) ?_
 rintro _ w3 ⟨rfl,hq2⟩
 have hC8:Ctx Fs.flatten w0 w3 [Ac pb1 [u1,(I x1.2.2.1),(I x1.2.2.2)],Ac b1 [(I 0),(.slice none 0 0)]]:=hb1 _ _ hq2
 refine BB (vs:=[(0,(I x1.1))]) z z z (built45_0 z)<|AW hC8 zero45 z z fun b2 w4 hC9 hB2 hN2=>Al (cs':=[(I x1.1),(.slice none 0 0)]) (new:=[(I x1.1),(.slice none 0 0)]) hC9 0 z z (fac z<|fac z<|fa0) z Ba z z fun w5 hC10 hKp2=>?_
 try dsimp only [List.set] at hC10
 have hk2:=Ak (Ao hB2) hN2 hKp2
 refine Ab<|AC<|Ad<|Ag z z<|Ab<|be hF fun r1 hr2 hF=>Bv (fun l w=>∃x7:Int,∃v2:Value,∃x8:(List Int),∃x9:Int,∃x10:Int,(x7,x8,x9,x10)=r1∧l=[(4,(ptr b1 0)),(5,(ptr b2 0))]∧Ctx Fs.flatten w0 w [Ae v2 (x8:(List Int)),Ac b2 [(I x7),v2],Ac pb1 [u1,(I x9),(I x10)],Ac b1 [(I 0),(.slice none 0 0)]]) ?_ ?_
 ·refine Bb ?_
  have hC27:=hC10.triv (nil_val (α:=Int))
  refine wS (l':=[(0,(ptr pb1 0)),(1,u2),(4,(ptr b1 0)),(5,(ptr b2 0)),(6,(I 0))]) ⟨z,z,z,z,z,Am⟩<|BC (fun k l w=>∃x2:Int,∃v1:Value,∃x3:(List Int),∃x4:Int,∃x5:Int,∃x6:Int,l=[(0,(ptr pb1 0)),(1,u2),(4,(ptr b1 0)),(5,(ptr b2 0)),(6,(I x6))]∧Ctx Fs.flatten w0 w [Ae v1 (x3:(List Int)),Ac b2 [(I x2),v1],Ac pb1 [u1,(I x4),(I x5)],Ac b1 [(I 0),(.slice none 0 0)]]∧S.l5Access_l1 a2 a1 k x2 x3 x4 x5 x6=some r1) FUEL ⟨x1.1,(.slice none 0 0),[],x1.2.2.1,x1.2.2.2,0,z,hC27,hr2⟩<|?_
  clear hr2
  rintro k1 _ w6 ⟨x2,v1,x3,x4,x5,x6,rfl,hC11,hL1⟩
  cases k1 with
  | zero=>rw [S.l5Access_l1] at hL1; cases hL1
  | succ k1 =>
   rw [S.l5Access_l1] at hL1
   refine AC<|Ad<|Af z z<|Af z z<|fd AQ Az z z z z<|At hC11 1 z z AA z z<|be hL1 fun x11 hx1 hL1=>Bc Bl ty93 g2 hx1 z z z fun b3 o1 h1=>fd AO A2 z z z z<|Bf ty24 h1.snd.fst hC11.keep z z fun v3 h2=>Bo Ap h2 z z<|B6 z z z<|Ab<|AN z (fun hc2=>?_) (fun hc2=>?_)
   ·replace hL1:=AF hL1 hc2
    refine AR<|Ax<|AC<|Bb<|Ad<|Af z z<|be hL1 fun x12 hr3 hL1=>have hC12:=hC11.f2;?_
    obtain ⟨Fs2,hH2,hn2,hF2,hO2,hb2⟩:=AB (As:=[Ae v1 (x3:(List Int)),Ac b2 [(I x2),v1],Ac b1 [(I 0),(.slice none 0 0)]]) [Ac pb1 [u1,(I x4),(I x5)]] hC12
    refine A8 Bw z z (c_S_l1Below pb1 (a1.1,x4,x5) u1 (AJ g1 hC12.keep hF2) 4 hH2 hn2 x12 hr3) ?_
    rintro _ w7 ⟨rfl,hq3⟩
    have hC13:Ctx Fs.flatten w0 w7 [Ac pb1 [u1,(I x12.2.2.1),(I x12.2.2.2)],Ae v1 (x3:(List Int)),Ac b2 [(I x2),v1],Ac b1 [(I 0),(.slice none 0 0)]]:=hb2 _ _ hq3
    refine Ag z z<|Ab<|Bt<|fd AQ A2 z z z z<|At hC13 2 z z AT z z<|Af z z<|AK (vs:=[(I x12.1)]) hC13 Ap ty3 z z z z (fac z<|fa0) z z fun b4 w9 hC14 hB4=>?_
    have hC15:=hC14.row0 (α:=Int)
    have hC16:=hC15.triv (Bp (x12.1))
    have hC17:=hC16.row1
    have hC18:=hC17.front 1 z
    dsimp only [List.eraseIdx,List.cons_append,List.nil_append,List.append_nil] at hC18
    have hC19:Ctx Fs.flatten w0 w9 (Ae (.slice (some ⟨b4,0,none⟩) 1 1) ([x12.1]:List Int)::[Ac pb1 [u1,(I x12.2.2.1),(I x12.2.2.2)],Ae v1 (x3:(List Int)),Ac b2 [(I x2),v1],Ac b1 [(I 0),(.slice none 0 0)]]):=hC18.rowOwn (by simp [maxLen])
    refine be hL1 fun x13 hx2 hL1=>B9 (α:=Int) hC19 2 z (hC19.ro 0 z) (Be _ _) Ap ty3 z hx2 z z z fun v4 w10 hC20=>?_
    try dsimp only [List.set] at hC20
    refine fd AQ A2 z z z z<|Br (cs':=[(I x2),v4]) hC20 3 z z (AP (hC20.ro 2 z)) z A2 z z fun w11 hC21 hKp3=>?_
    try dsimp only [List.set] at hC21
    exact Ab<|Bi<|Ax<|Bt<|Af z z<|By z z z<|Ag z z<|Ab<|have hC22:=hC21.f4;have hC23:=hC22.f2;have hC24:=hC23.f4;have hC25:=hC24.f4;have hC26:=hC25.h4;Ay (l':=[(0,(ptr pb1 0)),(1,u2),(4,(ptr b1 0)),(5,(ptr b2 0)),(6,(I (w64 (x6+1))))]) ⟨z,z,z,z,z,Am⟩<|⟨k1,AS _,x2,v4,x13,x12.2.2.1,x12.2.2.2,w64 (x6+1),z,hC26,hL1⟩
   replace hL1:=AG hL1 hc2
   refine BD (AY (AY (B1 ?_)))
   obtain rfl:=Aa hL1
   exact Ay (l':=[(4,(ptr b1 0)),(5,(ptr b2 0))]) ⟨z,z,Am⟩<|⟨x2,v1,x3,x4,x5,z,z,hC11⟩
 rintro l2 _ w12 hs2 ⟨x7,v2,x8,x9,x10,rfl,rfl,hC28⟩
 try dsimp only at hF
 refine Bj hs2 ?_
 clear hs2
 refine Ad<|Ar [(I x7),v2] hC28 1 z z z B8 Ba z z<|Al (cs':=[(I x7),v2]) (new:=[(I x7),v2]) hC28 3 z z (fac z<|fac (AP (hC28.ro 0 z))<|fa0) z Ba z z fun w13 hC29 hKp4=>?_
 try dsimp only [List.set] at hC29
 refine Ab (AL ?_)
 obtain rfl:=Aa hF
 refine BM z (rv_cell_agg (cs':=[(I x7),v2]) hC29 (i:=3) z z z B8 Ba z)<|have hC30:=hC29.f2;have hC32:=hC30.f1;?_
 have hC31:=CS x7 v2 x8 hC32
 have hC33:=hC31.h2
 exact ⟨_,z,_,z,hC33⟩
theorem c_S_l5AnyAccess {w0:World} {Fs:List (List Nat)} (pb1:Nat) (a1:((List UInt8) × Int × Int)) (u1:Value) (g1:RO Fs.flatten w0 u1 a1.1) (a2:(List (Int × (List Int) × Int × Int × Int))) (u2:Value) (g2:RO Fs.flatten w0 u2 a2) (hH:Hold [Ac pb1 [u1,(I a1.2.1),(I a1.2.2)]] w0 Fs) (hn:Fs.flatten.Nodup) (rr:((Int × (List Int)) × ((List UInt8) × Int × Int))) (hF:S.l5AnyAccess a1 a2=some rr) :
 Calls Tryz.prog 49 [(ptr pb1 0),u2].toArray w0 fun e w'=>∃v,e=.returned v∧∃q0:Value,v=q0∧Ctx Fs.flatten w0 w' [Ae q0 (rr.1:(Int × (List Int))),Ac pb1 [u1,(I rr.2.2.1),(I rr.2.2.2)]]:=by
 refine A4 Tryz.func49 z z ?_
 have hC0:=B4 hH hn
 unfold S.l5AnyAccess at hF
 refine Ad<|AW hC0 zero45 z z fun b1 w1 hC1 hB1 hN1=>Ab<|Ad<|Af z z<|Af z z<|be hF fun x1 hr1 hF=>have hC2:=hC1.f1;?_
 obtain ⟨Fs1,hH1,hn1,hF1,hO1,hb1⟩:=AB (As:=[Ac b1 [(I 0),(.slice none 0 0)]]) [Ac pb1 [u1,(I a1.2.1),(I a1.2.2)]] hC2
 refine A8 C5 z z (c_S_l5Access pb1 (a1.1,a1.2.1,a1.2.2) u1 (AJ g1 hC2.keep hF1) a2 u2 (AJ g2 hC2.keep hF1) hH1 hn1 x1 hr1) ?_
 rintro v1 w2 ⟨_,rfl,hq1⟩
 have hC3:Ctx Fs.flatten w0 w2 [Ae v1 (x1.1:(Int × (List Int))),Ac pb1 [u1,(I x1.2.2.1),(I x1.2.2.2)],Ac b1 [(I 0),(.slice none 0 0)]]:=hb1 _ _ hq1
 obtain ⟨v2,rfl,hC4⟩:=st45_own hC3
 refine AW hC4 zero45 z z fun b2 w3 hC5 hB2 hN2=>Al (cs':=[(I x1.1.1),v2]) (new:=[(I x1.1.1),v2]) hC5 0 z z (fac z<|fac (AP (hC5.ro 1 z))<|fa0) z Ba z z fun w4 hC6 hKp1=>?_
 try dsimp only [List.set] at hC6
 have hk1:=Ak (Ao hB2) hN2 hKp1
 refine Ab<|AC<|Ad<|Af z z<|be hF fun x2 hr2 hF=>have hC7:=hC6.f2;?_
 obtain ⟨Fs2,hH2,hn2,hF2,hO2,hb2⟩:=AB (As:=[Ac b2 [(I x1.1.1),v2],Ae v2 (x1.1.2:(List Int)),Ac b1 [(I 0),(.slice none 0 0)]]) [Ac pb1 [u1,(I x1.2.2.1),(I x1.2.2.2)]] hC7
 refine A8 Bw z z (c_S_l1Below pb1 (a1.1,x1.2.2.1,x1.2.2.2) u1 (AJ g1 hC7.keep hF2) 12 hH2 hn2 x2 hr2) ?_
 rintro _ w5 ⟨rfl,hq2⟩
 have hC8:Ctx Fs.flatten w0 w5 [Ac pb1 [u1,(I x2.2.2.1),(I x2.2.2.2)],Ac b2 [(I x1.1.1),v2],Ae v2 (x1.1.2:(List Int)),Ac b1 [(I 0),(.slice none 0 0)]]:=hb2 _ _ hq2
 refine Ab<|Bb<|Ad<|BO z z z<|Ag z z<|Ab<|be hF fun r1 hr3 hF=>Bv (fun l w=>∃x3:Int,∃x4:Int,∃x5:Int,∃v3:Value,∃x6:(List Int),(x3,x4,x5,x6)=r1∧l=[(4,(ptr b1 0)),(5,(ptr b2 0))]∧Ctx Fs.flatten w0 w [Ac pb1 [u1,(I x3),(I x4)],Ac b2 [(I x5),v3],Ae v3 (x6:(List Int)),Ac b1 [(I 0),(.slice none 0 0)]]) ?_ ?_
 ·refine AN z (fun hc1=>?_) (fun hc1=>?_)
  ·replace hr3:=AF hr3 hc1
   refine Bt<|Af z z<|be hr3 fun x7 hr4 hr3=>?_
   obtain ⟨Fs3,hH3,hn3,hF3,hO3,hb3⟩:=AB (As:=[Ac b2 [(I x1.1.1),v2],Ae v2 (x1.1.2:(List Int)),Ac b1 [(I 0),(.slice none 0 0)]]) [Ac pb1 [u1,(I x2.2.2.1),(I x2.2.2.2)]] hC8
   refine A8 Bw z z (c_S_l1Below pb1 (a1.1,x2.2.2.1,x2.2.2.2) u1 (AJ g1 hC8.keep hF3) 7 hH3 hn3 x7 hr4) ?_
   rintro _ w7 ⟨rfl,hq3⟩
   have hC10:Ctx Fs.flatten w0 w7 [Ac pb1 [u1,(I x7.2.2.1),(I x7.2.2.2)],Ac b2 [(I x1.1.1),v2],Ae v2 (x1.1.2:(List Int)),Ac b1 [(I 0),(.slice none 0 0)]]:=hb3 _ _ hq3
   refine Cb z z z<|fd AQ Az z z z z<|Br (cs':=[(I (w64 (x7.1 - 1))),v2]) hC10 1 z z z z Az z z fun w9 hC11 hKp2=>?_
   try dsimp only [List.set] at hC11
   refine Ab ?_
   obtain rfl:=Aa hr3
   exact Ay (l':=[(4,(ptr b1 0)),(5,(ptr b2 0))]) ⟨z,z,Am⟩<|⟨x7.2.2.1,x7.2.2.2,w64 (x7.1 - 1),v2,x1.1.2,z,z,hC11⟩
  replace hr3:=AG hr3 hc1
  refine Ad<|BO z z z<|Ag z z<|Ab<|be hr3 fun r2 hr5 hr3=>Bv (fun l w=>∃x8:Int,∃x9:Int,∃x10:Int,∃v4:Value,∃x11:(List Int),(x8,x9,x10,x11)=r2∧l=[(4,(ptr b1 0)),(5,(ptr b2 0))]∧Ctx Fs.flatten w0 w [Ac pb1 [u1,(I x8),(I x9)],Ac b2 [(I x10),v4],Ae v4 (x11:(List Int)),Ac b1 [(I 0),(.slice none 0 0)]]) ?_ ?_
  ·refine AN z (fun hc2=>?_) (fun hc2=>?_)
   ·replace hr5:=AF hr5 hc2
    refine be hr5 fun r3 hr6 hr5=>Bv (fun l w=>∃x12:Int,∃x13:Int,∃x14:Int,∃v5:Value,∃x15:(List Int),(x12,x13,x14,x15)=r3∧l=[(4,(ptr b1 0)),(5,(ptr b2 0))]∧Ctx Fs.flatten w0 w [Ac pb1 [u1,(I x12),(I x13)],Ac b2 [(I x14),v5],Ae v5 (x15:(List Int)),Ac b1 [(I 0),(.slice none 0 0)]]) ?_ ?_
    ·refine W_drawn 9 z hmix fun w12 hB6=>have hC14:=hC8.grow hB6;tf 0 AQ A2 z z z z z<|tm 2 z z z<|BY (i:=1) (j:=3) (by kernel_rfl) z z ?_ ?_
     ·refine At hC14 1 z z AT z z<|Ab<|oe 3 z<|AK (vs:=[(I (-1)),(I 3),(I 10)]) hC14 Ap ty3 z z z z (fac z<|fac z<|fac z<|fa0) z z fun b3 w13 hC15 hB7=>?_
      have hC16:=hC15.row0 (α:=Int)
      have hC17:=hC16.triv (Bp (10))
      have hC18:=hC17.row1
      have hC19:=hC18.triv (Bp (3))
      have hC20:=hC19.row1
      have hC21:=hC20.triv (Bp ((-1)))
      have hC22:=hC21.row1
      have hC23:=hC22.front 1 z
      dsimp only [List.eraseIdx,List.cons_append,List.nil_append,List.append_nil] at hC23
      have hC24:Ctx Fs.flatten w0 w13 (Ae (.slice (some ⟨b3,0,none⟩) 3 3) ([(-1),3,10]:List Int)::[Ac pb1 [u1,(I x2.2.2.1),(I x2.2.2.2)],Ac b2 [(I x1.1.1),v2],Ae v2 (x1.1.2:(List Int)),Ac b1 [(I 0),(.slice none 0 0)]]):=hC23.rowOwn (by simp [maxLen])
      refine Ab<|be hr6 fun x16 hr7 hr6=>oe 4 z<|have hC25:=hC24.f1;?_
      obtain ⟨Fs4,hH4,hn4,hF4,hO4,hb4⟩:=AB (As:=[Ae (.slice (some ⟨b3,0,none⟩) 3 3) ([(-1),3,10]:(List Int)),Ac b2 [(I x1.1.1),v2],Ae v2 (x1.1.2:(List Int)),Ac b1 [(I 0),(.slice none 0 0)]]) [Ac pb1 [u1,(I x2.2.2.1),(I x2.2.2.2)]] hC25
      refine A8 BU z z (c_S_l1PickInt pb1 (a1.1,x2.2.2.1,x2.2.2.2) u1 (AJ g1 hC25.keep hF4) ([(-1),3,10]) (.slice (some ⟨b3,0,none⟩) 3 3) (hO4 0 _ _ _ z) hH4 hn4 x16 hr7) ?_
      rintro _ w14 ⟨rfl,hq5⟩
      have hC26:Ctx Fs.flatten w0 w14 [Ac pb1 [u1,(I x16.2.2.1),(I x16.2.2.2)],Ae (.slice (some ⟨b3,0,none⟩) 3 3) ([(-1),3,10]:(List Int)),Ac b2 [(I x1.1.1),v2],Ae v2 (x1.1.2:(List Int)),Ac b1 [(I 0),(.slice none 0 0)]]:=hb4 _ _ hq5
      refine Ab<|oe 5 z<|AK (vs:=[(I x16.1)]) hC26 Ap ty3 z z z z (fac z<|fa0) z z fun b4 w15 hC27 hB8=>?_
      have hC28:=hC27.row0 (α:=Int)
      have hC29:=hC28.triv (Bp (x16.1))
      have hC30:=hC29.row1
      have hC31:=hC30.front 1 z
      dsimp only [List.eraseIdx,List.cons_append,List.nil_append,List.append_nil] at hC31
      have hC32:Ctx Fs.flatten w0 w15 (Ae (.slice (some ⟨b4,0,none⟩) 1 1) ([x16.1]:List Int)::[Ac pb1 [u1,(I x16.2.2.1),(I x16.2.2.2)],Ae (.slice (some ⟨b3,0,none⟩) 3 3) ([(-1),3,10]:(List Int)),Ac b2 [(I x1.1.1),v2],Ae v2 (x1.1.2:(List Int)),Ac b1 [(I 0),(.slice none 0 0)]]):=hC31.rowOwn (by simp [maxLen])
      refine Ab<|be hr6 fun x17 hx1 hr6=>oe 6 z<|B9 (α:=Int) hC32 4 z (hC32.ro 0 z) (Be _ _) Ap ty3 z hx1 z z z fun v6 w16 hC33=>?_
      try dsimp only [List.set] at hC33
      refine Ab<|tf 7 AQ A2 z z z z z<|oe 8 z<|Br (cs':=[(I x1.1.1),v6]) hC33 3 z z (AP (hC33.ro 4 z)) z A2 z z fun w17 hC34 hKp3=>?_
      try dsimp only [List.set] at hC34
      refine Ab<|dn<|?_
      obtain rfl:=Aa hr6
      have hC35:=hC34.f5
      have hC36:=hC35.f5
      have hC37:=hC36.f5
      have hC38:=hC37.f4
      have hC39:=hC38.h4
      exact Ay (l':=[(4,(ptr b1 0)),(5,(ptr b2 0))]) ⟨z,z,Am⟩<|⟨x16.2.2.1,x16.2.2.2,x1.1.1,v6,x17,z,z,hC39⟩
     refine AK (vs:=[(I (-1)),(I 3),(I 10)]) hC14 Ap ty3 z z z z (fac z<|fac z<|fac z<|fa0) z z (fun b3 w13 hC15 hB7=>?_)
     have hC16:=hC15.row0 (α:=Int)
     have hC17:=hC16.triv (Bp (10))
     have hC18:=hC17.row1
     have hC19:=hC18.triv (Bp (3))
     have hC20:=hC19.row1
     have hC21:=hC20.triv (Bp ((-1)))
     have hC22:=hC21.row1
     have hC23:=hC22.front 1 z
     dsimp only [List.eraseIdx,List.cons_append,List.nil_append,List.append_nil] at hC23
     have hC24:Ctx Fs.flatten w0 w13 (Ae (.slice (some ⟨b3,0,none⟩) 3 3) ([(-1),3,10]:List Int)::[Ac pb1 [u1,(I x2.2.2.1),(I x2.2.2.2)],Ac b2 [(I x1.1.1),v2],Ae v2 (x1.1.2:(List Int)),Ac b1 [(I 0),(.slice none 0 0)]]):=hC23.rowOwn (by simp [maxLen])
     refine Ab<|BY (i:=1) (j:=4) (by kernel_rfl) z z ?_ ?_
     ·refine At hC24 2 z z AT z z<|Ab<|be hr6 fun x16 hr7 hr6=>oe 4 z<|have hC25:=hC24.f1;?_
      obtain ⟨Fs4,hH4,hn4,hF4,hO4,hb4⟩:=AB (As:=[Ae (.slice (some ⟨b3,0,none⟩) 3 3) ([(-1),3,10]:(List Int)),Ac b2 [(I x1.1.1),v2],Ae v2 (x1.1.2:(List Int)),Ac b1 [(I 0),(.slice none 0 0)]]) [Ac pb1 [u1,(I x2.2.2.1),(I x2.2.2.2)]] hC25
      refine A8 BU z z (c_S_l1PickInt pb1 (a1.1,x2.2.2.1,x2.2.2.2) u1 (AJ g1 hC25.keep hF4) ([(-1),3,10]) (.slice (some ⟨b3,0,none⟩) 3 3) (hO4 0 _ _ _ z) hH4 hn4 x16 hr7) ?_
      rintro _ w14 ⟨rfl,hq5⟩
      have hC26:Ctx Fs.flatten w0 w14 [Ac pb1 [u1,(I x16.2.2.1),(I x16.2.2.2)],Ae (.slice (some ⟨b3,0,none⟩) 3 3) ([(-1),3,10]:(List Int)),Ac b2 [(I x1.1.1),v2],Ae v2 (x1.1.2:(List Int)),Ac b1 [(I 0),(.slice none 0 0)]]:=hb4 _ _ hq5
      refine Ab<|oe 5 z<|AK (vs:=[(I x16.1)]) hC26 Ap ty3 z z z z (fac z<|fa0) z z fun b4 w15 hC27 hB8=>?_
      have hC28:=hC27.row0 (α:=Int)
      have hC29:=hC28.triv (Bp (x16.1))
      have hC30:=hC29.row1
      have hC31:=hC30.front 1 z
      dsimp only [List.eraseIdx,List.cons_append,List.nil_append,List.append_nil] at hC31
      have hC32:Ctx Fs.flatten w0 w15 (Ae (.slice (some ⟨b4,0,none⟩) 1 1) ([x16.1]:List Int)::[Ac pb1 [u1,(I x16.2.2.1),(I x16.2.2.2)],Ae (.slice (some ⟨b3,0,none⟩) 3 3) ([(-1),3,10]:(List Int)),Ac b2 [(I x1.1.1),v2],Ae v2 (x1.1.2:(List Int)),Ac b1 [(I 0),(.slice none 0 0)]]):=hC31.rowOwn (by simp [maxLen])
      refine Ab<|be hr6 fun x17 hx1 hr6=>oe 6 z<|B9 (α:=Int) hC32 4 z (hC32.ro 0 z) (Be _ _) Ap ty3 z hx1 z z z fun v6 w16 hC33=>?_
      try dsimp only [List.set] at hC33
      refine Ab<|tf 7 AQ A2 z z z z z<|oe 8 z<|Br (cs':=[(I x1.1.1),v6]) hC33 3 z z (AP (hC33.ro 4 z)) z A2 z z fun w17 hC34 hKp3=>?_
      try dsimp only [List.set] at hC34
      refine Ab<|dn<|?_
      obtain rfl:=Aa hr6
      have hC35:=hC34.f5
      have hC36:=hC35.f5
      have hC37:=hC36.f5
      have hC38:=hC37.f4
      have hC39:=hC38.h4
      exact Ay (l':=[(4,(ptr b1 0)),(5,(ptr b2 0))]) ⟨z,z,Am⟩<|⟨x16.2.2.1,x16.2.2.2,x1.1.1,v6,x17,z,z,hC39⟩
     refine be hr6 fun x16 hr7 hr6=>have hC25:=hC24.f1;?_
     obtain ⟨Fs4,hH4,hn4,hF4,hO4,hb4⟩:=AB (As:=[Ae (.slice (some ⟨b3,0,none⟩) 3 3) ([(-1),3,10]:(List Int)),Ac b2 [(I x1.1.1),v2],Ae v2 (x1.1.2:(List Int)),Ac b1 [(I 0),(.slice none 0 0)]]) [Ac pb1 [u1,(I x2.2.2.1),(I x2.2.2.2)]] hC25
     refine A8 BU z z (c_S_l1PickInt pb1 (a1.1,x2.2.2.1,x2.2.2.2) u1 (AJ g1 hC25.keep hF4) ([(-1),3,10]) (.slice (some ⟨b3,0,none⟩) 3 3) (hO4 0 _ _ _ z) hH4 hn4 x16 hr7) ?_
     rintro _ w14 ⟨rfl,hq5⟩
     have hC26:Ctx Fs.flatten w0 w14 [Ac pb1 [u1,(I x16.2.2.1),(I x16.2.2.2)],Ae (.slice (some ⟨b3,0,none⟩) 3 3) ([(-1),3,10]:(List Int)),Ac b2 [(I x1.1.1),v2],Ae v2 (x1.1.2:(List Int)),Ac b1 [(I 0),(.slice none 0 0)]]:=hb4 _ _ hq5
     refine Ab<|wAS (l':=[(0,(ptr pb1 0)),(1,u2),(4,(ptr b1 0)),(5,(ptr b2 0)),(6,(ptr pb1 0)),(7,u2),(8,(.agg #[(I x1.1.1),v2])),(9,(ptr pb1 0)),(10,(I x2.1)),(11,(.bool (decide (x2.1=0)))),(12,(.bool (decide (x2.1=0)))),(17,(.bool (decide (x2.1=1)))),(18,(.bool (decide (x2.1=1)))),(19,(ptr b2 1)),(21,(ptr pb1 0)),(22,(.slice (some ⟨b3,0,none⟩) 3 3)),(23,(I x16.1))]) ⟨z,z,z,z,z,z,z,z,z,z,z,z,z,z,z,z,z,Am⟩<|Bm [⟨1,[],fun vs=>AU v2,[]⟩,⟨5,[],fun vs=>Ct ([x16.1]:(List Int)),[]⟩] [[],[]] 3 z (by kernel_rfl) (by kernel_rfl) z ?_ ?_
     ·refine An z ?_ ?_
      ·intro w16 hB9
       refine Av<|⟨_,z,?_⟩
       exact At (hC26.grow hB9) 2 z z AT z z<|Ab<|A0 (Aq _ _) z z ⟨z,z⟩
      refine An z ?_ ?_
      ·intro w16 hB9
       refine Av<|⟨_,z,?_⟩
       refine AK (vs:=[(I x16.1)]) (AD w16) Ap ty3 z z z z (fac z<|fa0) z z (fun b4 w15 hC27 hB8=>?_)
       have hC28:=hC27.row0 (α:=Int)
       have hC29:=hC28.triv (Bp (x16.1))
       have hC30:=hC29.row1
       have hC31:=hC30.front 1 z
       dsimp only [List.eraseIdx,List.cons_append,List.nil_append,List.append_nil] at hC31
       have hC32:Ctx [] w16 w15 (Ae (.slice (some ⟨b4,0,none⟩) 1 1) ([x16.1]:List Int)::[]):=hC31.rowOwn (by simp [maxLen])
       exact Ab<|C2 hC32 z z (fun F h=>h)
      exact Bd
     intro w17 hB10
     refine Au z z z ?_
     rintro _ _ ⟨rfl,rfl⟩
     refine Au z z z fun v6 F1 hv1=>Bn fun hn5 hb5=>?_
     have hC33:=hC26.pushL hB10 (Bs:=[Ae v6 ([x16.1]:(List Int))]) (Fs:=[F1]) ⟨F1,_,z,hv1,z⟩ (by simpa using hn5) (fun b h=>(hb5 b (by simpa using h)).1)
     refine be hr6 fun x17 hx1 hr6=>oe 6 z<|B9 (α:=Int) hC33 4 z (hC33.ro 0 z) (Be _ _) Ap ty3 z hx1 z z z fun v7 w18 hC34=>?_
     try dsimp only [List.set] at hC34
     refine Ab<|tf 7 AQ A2 z z z z z<|oe 8 z<|Br (cs':=[(I x1.1.1),v7]) hC34 3 z z (AP (hC34.ro 4 z)) z A2 z z fun w19 hC35 hKp3=>?_
     try dsimp only [List.set] at hC35
     refine Ab<|dn<|?_
     obtain rfl:=Aa hr6
     have hC36:=hC35.f5
     have hC37:=hC36.f5
     have hC38:=hC37.f5
     have hC39:=hC38.f4
     have hC40:=hC39.h4
     exact Ay (l':=[(4,(ptr b1 0)),(5,(ptr b2 0))]) ⟨z,z,Am⟩<|⟨x16.2.2.1,x16.2.2.2,x1.1.1,v7,x17,z,z,hC40⟩
    rintro l3 _ w11 hs3 ⟨x12,x13,x14,v5,x15,rfl,rfl,hC13⟩
    try dsimp only at hr5
    obtain rfl:=Aa hr5
    exact Cq (l2:=[(4,(ptr b1 0)),(5,(ptr b2 0))]) hs3 ⟨z,z,Am⟩<|⟨x12,x13,x14,v5,x15,z,z,hC13⟩
   replace hr5:=AG hr5 hc2
   refine AR ?_
   obtain rfl:=Aa hr5
   exact Ay (l':=[(4,(ptr b1 0)),(5,(ptr b2 0))]) ⟨z,z,Am⟩<|⟨x2.2.2.1,x2.2.2.2,x1.1.1,v2,x1.1.2,z,z,hC8⟩
  rintro l2 _ w10 hs2 ⟨x8,x9,x10,v4,x11,rfl,rfl,hC12⟩
  try dsimp only at hr3
  obtain rfl:=Aa hr3
  exact Cq (l2:=[(4,(ptr b1 0)),(5,(ptr b2 0))]) hs2 ⟨z,z,Am⟩<|⟨x8,x9,x10,v4,x11,z,z,hC12⟩
 rintro l1 _ w6 hs1 ⟨x3,x4,x5,v3,x6,rfl,rfl,hC9⟩
 try dsimp only at hF
 refine Bi<|Bj hs1<|?_
 clear hs1
 refine Ad<|Ar [(I x5),v3] hC9 1 z z z B8 Ba z z<|Al (cs':=[(I x5),v3]) (new:=[(I x5),v3]) hC9 3 z z (fac z<|fac (AP (hC9.ro 2 z))<|fa0) z Ba z z fun w20 hC41 hKp4=>?_
 try dsimp only [List.set] at hC41
 refine Ab (AL ?_)
 obtain rfl:=Aa hF
 refine BM z (rv_cell_agg (cs':=[(I x5),v3]) hC41 (i:=3) z z z B8 Ba z)<|have hC43:=hC41.f2;?_
 have hC42:=CS x5 v3 x6 hC43
 have hC44:=hC42.h2
 exact ⟨_,z,_,z,hC44⟩
theorem c_S_DrawOpenCursor {w0:World} (a1:(List UInt8)) (u1:Value) (g1:RO [] w0 u1 a1) (rr:((List Int) × (List (Int × (List Int) × Int × Int × Int)) × ((List (Int × (List Int))) × Int) × (Int × (List Int)))) (hF:S.DrawOpenCursor a1=some rr) :
 Calls Tryz.prog 16 [u1].toArray w0 fun e w'=>∃v,e=.returned v∧∃q0:Value,∃q1:Value,∃q2:Value,∃q3:Value,v=(.tuple #[q0,q1,q2,q3])∧Ctx [] w0 w' [Ae q0 (rr.1:(List Int)),Ae q1 (rr.2.1:(List (Int × (List Int) × Int × Int × Int))),Ae q2 (rr.2.2.1:((List (Int × (List Int))) × Int)),Ae q3 (rr.2.2.2:(Int × (List Int)))]:=by
 refine A4 Tryz.func16 z z ?_
 have hC0:=AD w0
 unfold S.DrawOpenCursor at hF
 refine Ad<|Ag z z<|Ag z z<|AW hC0 zero27 z z fun b1 w1 hC1 hB1 hN1=>AW hC1 zero45 z z fun b2 w2 hC2 hB2 hN2=>Ab<|Ad<|Af z z<|be hF fun x1 hr1 hF=>A8 CK z z (c_S_l1New a1 u1 (g1.now hC2.keep) x1 hr1)<|?_
 rintro _ w3 ⟨b3,rfl,hq1⟩
 have hC3:Ctx [] w0 w3 [Ac b3 [u1,(I x1.2.1),(I x1.2.2)],Ac b2 [(I 0),(.slice none 0 0)],Ac b1 [(.slice none 0 0),(I 0)]]:=hC2.push2 hq1
 refine Ag z z<|Ab<|Ad<|Af z z<|be hF fun x2 hr2 hF=>?_
 obtain ⟨Fs2,hH2,hn2,hF2,hO2,hb2⟩:=AB (As:=[Ac b2 [(I 0),(.slice none 0 0)],Ac b1 [(.slice none 0 0),(I 0)]]) [Ac b3 [u1,(I x1.2.1),(I x1.2.2)]] hC3
 refine A8 CL z z (c_S_l25Draw b3 (a1,x1.2.1,x1.2.2) u1 (AJ g1 hC3.keep hF2) hH2 hn2 x2 hr2) ?_
 rintro _ w4 ⟨v1,v2,v3,rfl,hq2⟩
 have hC4:Ctx [] w0 w4 [Ae v1 (x2.1:(List Int)),Ae v2 (x2.2.1:(List (Int × (List Int) × Int × Int × Int))),Ae v3 (x2.2.2.1:((List (Int × (List Int))) × Int)),Ac b3 [u1,(I x2.2.2.2.2.1),(I x2.2.2.2.2.2)],Ac b2 [(I 0),(.slice none 0 0)],Ac b1 [(.slice none 0 0),(I 0)]]:=hb2 _ _ hq2
 have hC5:=hC4.f2
 obtain ⟨v4,rfl,hC6⟩:=st27_own hC5
 refine Af z z<|AM z z z<|AM z z z<|AM z z z<|AW hC6 zero27 z z fun b4 w5 hC7 hB3 hN3=>Ag z z<|Ag z z<|Al (cs':=[v4,(I x2.2.2.1.2)]) (new:=[v4,(I x2.2.2.1.2)]) hC7 0 z z (fac (AP (hC7.ro 1 z))<|fac z<|fa0) z Aw z z fun w6 hC8 hKp1=>?_
 try dsimp only [List.set] at hC8
 have hk1:=Ak (Ao hB3) hN3 hKp1
 refine Ab<|be hF fun r1 hr3 hF=>BP (fun l w=>∃x3:Int,∃x4:Int,∃x5:Int,∃v5:Value,∃x6:(List Int),∃v6:Value,∃x7:(List (Int × (List Int))),∃x8:Int,∃v7:Value,∃x9:(List Int),∃v8:Value,∃x10:(List (Int × (List Int) × Int × Int × Int)),(x3,x4,x5,x6,x7,x8,x9,x10)=r1∧l=[(2,v7),(3,v8),(4,(ptr b1 0)),(5,(ptr b2 0))]∧Ctx [] w0 w [Ae v8 (x10:(List (Int × (List Int) × Int × Int × Int))),Ae v7 (x9:(List Int)),Ae v6 (x7:(List (Int × (List Int)))),Ae v5 (x6:(List Int)),Ac b2 [(I x5),v5],Ac b1 [v6,(I x8)]]) ?_ ?_
 ·refine W_drawn 10 z hmix fun w9 hB5=>have hC10:=hC8.grow hB5;tm 0 z z z<|tm 1 z z z<|tm 3 z z z<|tm 4 z z z<|BY (i:=2) (j:=5) (by kernel_rfl) z z ?_ ?_
  ·refine Ar [v4,(I x2.2.2.1.2)] hC10 0 z z z A9 Aw z z<|Ab<|be hr3 fun x11 hr4 hr3=>oe 5 z<|have hC11:=hC10.f4;?_
   obtain ⟨Fs3,hH3,hn3,hF3,hO3,hb3⟩:=AB (As:=[Ac b4 [v4,(I x2.2.2.1.2)],Ae v4 (x2.2.2.1.1:(List (Int × (List Int)))),Ae v1 (x2.1:(List Int)),Ae v2 (x2.2.1:(List (Int × (List Int) × Int × Int × Int))),Ac b2 [(I 0),(.slice none 0 0)],Ac b1 [(.slice none 0 0),(I 0)]]) [Ac b3 [u1,(I x2.2.2.2.2.1),(I x2.2.2.2.2.2)]] hC11
   refine A8 Tryz.call49 z z (c_S_l5AnyAccess b3 (a1,x2.2.2.2.2.1,x2.2.2.2.2.2) u1 (AJ g1 hC11.keep hF3) x2.2.1 v2 (hO3 3 _ _ _ z) hH3 hn3 x11 hr4) ?_
   rintro v9 w10 ⟨_,rfl,hq3⟩
   have hC12:Ctx [] w0 w10 [Ae v9 (x11.1:(Int × (List Int))),Ac b3 [u1,(I x11.2.2.1),(I x11.2.2.2)],Ac b4 [v4,(I x2.2.2.1.2)],Ae v4 (x2.2.2.1.1:(List (Int × (List Int)))),Ae v1 (x2.1:(List Int)),Ae v2 (x2.2.1:(List (Int × (List Int) × Int × Int × Int))),Ac b2 [(I 0),(.slice none 0 0)],Ac b1 [(.slice none 0 0),(I 0)]]:=hb3 _ _ hq3
   obtain ⟨v10,rfl,hC13⟩:=st45_own hC12
   refine Ab<|ta 6 z z z<|ta 7 z z z<|oe 8 z<|Al (cs':=[v4,(I x2.2.2.1.2)]) (new:=[v4,(I x2.2.2.1.2)]) hC13 7 z z (fac (AP (hC13.ro 3 z))<|fac z<|fa0) z Aw z z fun w11 hC14 hKp2=>?_
   try dsimp only [List.set] at hC14
   refine Ab<|oe 9 z<|Al (cs':=[(I x11.1.1),v10]) (new:=[(I x11.1.1),v10]) hC14 6 z z (fac z<|fac (AP (hC14.ro 0 z))<|fa0) z Ba z z fun w12 hC15 hKp3=>?_
   try dsimp only [List.set] at hC15
   refine Ab<|dn<|?_
   obtain rfl:=Aa hr3
   have hC16:=hC15.f7
   have hC17:=hC16.f7
   have hC18:=hC17.f2
   have hC19:=hC18.f5
   have hC20:=hC19.f6
   have hC21:=hC20.f7
   have hC22:=hC21.h6
   exact Ay (l':=[(2,v1),(3,v2),(4,(ptr b1 0)),(5,(ptr b2 0))]) ⟨z,z,z,z,Am⟩<|⟨x11.2.2.1,x11.2.2.2,x11.1.1,v10,x11.1.2,v4,x2.2.2.1.1,x2.2.2.1.2,v1,x2.1,v2,x2.2.1,z,z,hC22⟩
  refine be hr3 fun x11 hr4 hr3=>have hC11:=hC10.f4;?_
  obtain ⟨Fs3,hH3,hn3,hF3,hO3,hb3⟩:=AB (As:=[Ac b4 [v4,(I x2.2.2.1.2)],Ae v4 (x2.2.2.1.1:(List (Int × (List Int)))),Ae v1 (x2.1:(List Int)),Ae v2 (x2.2.1:(List (Int × (List Int) × Int × Int × Int))),Ac b2 [(I 0),(.slice none 0 0)],Ac b1 [(.slice none 0 0),(I 0)]]) [Ac b3 [u1,(I x2.2.2.2.2.1),(I x2.2.2.2.2.2)]] hC11
  refine A8 Tryz.call49 z z (c_S_l5AnyAccess b3 (a1,x2.2.2.2.2.1,x2.2.2.2.2.2) u1 (AJ g1 hC11.keep hF3) x2.2.1 v2 (hO3 3 _ _ _ z) hH3 hn3 x11 hr4) ?_
  rintro v9 w10 ⟨_,rfl,hq3⟩
  have hC12:Ctx [] w0 w10 [Ae v9 (x11.1:(Int × (List Int))),Ac b3 [u1,(I x11.2.2.1),(I x11.2.2.2)],Ac b4 [v4,(I x2.2.2.1.2)],Ae v4 (x2.2.2.1.1:(List (Int × (List Int)))),Ae v1 (x2.1:(List Int)),Ae v2 (x2.2.1:(List (Int × (List Int) × Int × Int × Int))),Ac b2 [(I 0),(.slice none 0 0)],Ac b1 [(.slice none 0 0),(I 0)]]:=hb3 _ _ hq3
  obtain ⟨v10,rfl,hC13⟩:=st45_own hC12
  refine Ab<|ta 6 z z z<|ta 7 z z z<|oe 2 z<|Ar [v4,(I x2.2.2.1.2)] hC13 2 z z z A9 Aw z z<|Ab<|oe 8 z<|Al (cs':=[v4,(I x2.2.2.1.2)]) (new:=[v4,(I x2.2.2.1.2)]) hC13 7 z z (fac (AP (hC13.ro 3 z))<|fac z<|fa0) z Aw z z fun w11 hC14 hKp2=>?_
  try dsimp only [List.set] at hC14
  refine Ab<|oe 9 z<|Al (cs':=[(I x11.1.1),v10]) (new:=[(I x11.1.1),v10]) hC14 6 z z (fac z<|fac (AP (hC14.ro 0 z))<|fa0) z Ba z z fun w12 hC15 hKp3=>?_
  try dsimp only [List.set] at hC15
  refine Ab<|dn<|?_
  obtain rfl:=Aa hr3
  have hC16:=hC15.f7
  have hC17:=hC16.f7
  have hC18:=hC17.f2
  have hC19:=hC18.f5
  have hC20:=hC19.f6
  have hC21:=hC20.f7
  have hC22:=hC21.h6
  exact Ay (l':=[(2,v1),(3,v2),(4,(ptr b1 0)),(5,(ptr b2 0))]) ⟨z,z,z,z,Am⟩<|⟨x11.2.2.1,x11.2.2.2,x11.1.1,v10,x11.1.2,v4,x2.2.2.1.1,x2.2.2.1.2,v1,x2.1,v2,x2.2.1,z,z,hC22⟩
 rintro _ w7 ⟨x3,x4,x5,v5,x6,v6,x7,x8,v7,x9,v8,x10,rfl,rfl,hC9⟩
 try dsimp only at hF
 refine AL ?_
 obtain rfl:=Aa hF
 refine fn_retG4 z (rv_tmp z) (rv_tmp z) (rv_cell_agg (cs':=[v6,(I x8)]) hC9 (i:=5) z z z A9 Aw z) (rv_cell_agg (cs':=[(I x5),v5]) hC9 (i:=4) z z z B8 Ba z)<|have hC24:=hC9.f3;?_
 have hC23:=CS x5 v5 x6 hC24
 have hC26:=hC23.f3
 have hC25:=Cl v6 x7 x8 hC26
 have hC27:=hC25.f2
 have hC28:=hC27.f3
 have hC29:=hC28.h4
 exact ⟨_,z,_,_,_,_,z,hC29⟩
theorem c_M_ascending {w0:World} (a1:(List Int)) (u1:Value) (g1:RO [] w0 u1 a1) (rr:Bool) (hF:M.ascending a1=some rr) :
 Calls Tryz.prog 110 [u1].toArray w0 fun e w'=>∃v,e=.returned v∧Res w0 rr v w':=by
 refine A4 Tryz.func110 z z ?_
 have hC0:=AD w0
 unfold M.ascending at hF
 refine Ad<|Ag z z<|Ab<|AC<|Ad<|Af z z<|Bo Ap g1 z z<|Af z z<|Ab<|be hF fun r1 hr1 hF=>Bv (fun l w=>.inl ()=r1∧l=[]∧Below w0.heap.size w0 w∧Ctx [] w0 w []) ?_ ?_
 ·refine Bb<|wS (l':=[(0,u1),(5,(I (List.length a1:Int))),(6,(I 0))]) ⟨z,z,z,Am⟩<|BC (fun k l w=>∃x1:Int,l=[(0,u1),(5,(I (List.length a1:Int))),(6,(I x1))]∧Below w0.heap.size w0 w∧Ctx [] w0 w []∧M.ascending_l1 a1 k x1=some r1) FUEL ⟨0,z,(Aq _ _),hC0,hr1⟩<|?_
  clear hr1
  rintro k1 _ w1 ⟨x1,rfl,hB1,hC1,hL1⟩
  cases k1 with
  | zero=>rw [M.ascending_l1] at hL1; cases hL1
  | succ k1 =>
   rw [M.ascending_l1] at hL1
   refine Ad<|B6 z z z<|Ab<|AC<|AN z (fun hc1=>?_) (fun hc1=>?_)
   ·replace hL1:=AF hL1 hc1
    refine AR<|Ax<|AC<|Bb<|Ad<|Af z z<|Ag z z<|Ab<|be hL1 fun r2 hr2 hL1=>BP (fun l w=>∃x2:Bool,x2=r2∧l=[(0,u1),(5,(I (List.length a1:Int))),(6,(I x1)),(22,(.bool x2))]∧Below w1.heap.size w1 w∧Ctx [] w0 w []) ?_ ?_
    ·refine W_drawn 14 z hmix fun w3 hB3=>have hC3:=hC1.grow hB3;tm 0 z z z<|tk 1 z z (fl_gtr z z)<|Cs z z z<|Ab<|tm 2 z z z<|BE (fun hc2=>?_) (fun hc2=>?_)
     ·replace hr2:=AF hr2 hc2
      refine tn 3 z z z z z<|tn 4 z z z z z<|be hr2 fun x3 hx1 hr2=>tg 5 z z z z (BL Ap ty3 g1 hx1 z z)<|Aj z z<|Bc Ap ty3 g1 hx1 z z z fun b1 o1 h1=>Ab<|tn 7 z z z z z<|tn 8 z z z z z<|tg 9 z z z z (CJ z z)<|Aj z z<|Cb z z z<|Ab<|be hr2 fun x4 hx2 hr2=>tg 10 z z z z (BL Ap ty3 g1 hx2 z z)<|Aj z z<|Bc Ap ty3 g1 hx2 z z z fun b2 o2 h2=>Ab<|wAS (l':=[(0,u1),(3,(I x1)),(5,(I (List.length a1:Int))),(6,(I x1)),(7,(.bool (decide (x1 < (List.length a1:Int))))),(8,(I x1)),(9,(I x1)),(10,(.bool (decide (0 < x1)))),(11,(.bool true)),(12,u1),(13,(I x1)),(14,(ptr b1 o1)),(16,u1),(17,(I x1)),(18,(I (w64 (x1 - 1)))),(19,(ptr b2 o2))]) ⟨z,z,z,z,z,z,z,z,z,z,z,z,z,z,z,z,Am⟩<|Bm [⟨6,[],fun vs=>AU (I x3),[]⟩,⟨11,[],fun vs=>AU (I x4),[]⟩] [[],[]] 2 z (by kernel_rfl) (by kernel_rfl) z ?_ ?_
      ·refine An z ?_ ?_
       ·intro w4 hB4
        refine Av<|⟨_,z,?_⟩
        refine Aj z z<|Bf ty3 h1 (hC3.keep.then hB4) z z fun v1 h3=>?_
        obtain rfl:=BG h3
        exact Ab<|A0 (Aq _ _) z z ⟨z,z⟩
       refine An z ?_ ?_
       ·intro w4 hB4
        refine Av<|⟨_,z,?_⟩
        refine Aj z z<|Bf ty3 h2 (hC3.keep.then hB4) z z fun v2 h4=>?_
        obtain rfl:=BG h4
        exact Ab<|A0 (Aq _ _) z z ⟨z,z⟩
       exact Bd
      intro w5 hB5
      refine Au z z z ?_
      rintro _ _ ⟨rfl,rfl⟩
      refine Au z z z ?_
      rintro _ _ ⟨rfl,rfl⟩
      refine Bn fun hn1 hb1=>have hC4:=hC3.grow hB5;tg 12 z z z z (fl_leq z z)<|Aj z z<|CH z z z<|Ab<|tp 13 z z z z<|dn<|?_
      obtain rfl:=Aa hr2
      exact Ay (l':=[(0,u1),(5,(I (List.length a1:Int))),(6,(I x1)),(22,(.bool (decide (x3 ≤ x4))))]) ⟨z,z,z,z,Am⟩<|⟨(decide (x3 ≤ x4)),z,z,((Ao hB3).then hB5).below,hC4⟩
     replace hr2:=AG hr2 hc2
     refine sk 3 z z z z z<|sk 4 z z z z z<|sk 5 z z z z z<|sk 6 z z z z z<|sk 7 z z z z z<|sk 8 z z z z z<|sk 9 z z z z z<|sk 10 z z z z z<|sk 11 z z z z z<|sk 12 z z z z z<|tq 13 z z z z<|dn<|?_
     obtain rfl:=Aa hr2
     exact Ay (l':=[(0,u1),(5,(I (List.length a1:Int))),(6,(I x1)),(22,(.bool false))]) ⟨z,z,z,z,Am⟩<|⟨false,z,z,(Ao hB3).below,hC3⟩
    rintro _ w2 ⟨x2,rfl,rfl,hB2,hC2⟩
    try dsimp only at hL1
    refine AN z (fun hc3=>?_) (fun hc3=>?_)
    ·replace hL1:=AF hL1 hc3
     refine Ad<|Ag z z<|Ab<|AL<|Bz<|A7<|A7<|Bz<|A7<|A7<|?_
     obtain rfl:=Aa hL1
     dsimp only at hF
     obtain rfl:=Aa hF
     exact AE z z<|⟨_,z,Bh hC2 _⟩
    replace hL1:=AG hL1 hc3
    exact AR<|Bi<|Ax<|Bt<|By z z z<|Af z z<|Ab<|Ay (l':=[(0,u1),(5,(I (List.length a1:Int))),(6,(I (w64 (x1+1))))]) ⟨z,z,z,Am⟩<|⟨k1,AS _,w64 (x1+1),z,((Ao hB1).then hB2).below,hC2,hL1⟩
   replace hL1:=AG hL1 hc1
   refine BD (AY (AY (B1 ?_)))
   obtain rfl:=Aa hL1
   exact Ay (l':=[]) Am<|⟨z,z,(Ao hB1).below,hC1⟩
 rintro l3 _ w6 hs3 ⟨rfl,rfl,hB6,hC5⟩
 try dsimp only at hF
 refine Bj hs3 ?_
 clear hs3
 refine Ad<|Ag z z<|Ab<|AL<|?_
 obtain rfl:=Aa hF
 exact AE z z<|⟨_,z,Bh hC5 _⟩
theorem c_M_Method_fits_c1 {w0:World} (a1:Int) (pb1:Nat) (ax1:Int) (g1:ROAt [] w0 pb1 0 ax1) (rr:Bool) (hF:M.Method_fits_c1 a1 ax1=some rr) :
 Calls Tryz.prog 111 [(I a1),(ptr pb1 0)].toArray w0 fun e w'=>∃v,e=.returned v∧Res w0 rr v w':=by
 refine A4 Tryz.func111 z z ?_
 have hC0:=AD w0
 unfold M.Method_fits_c1 at hF
 refine Ad<|Ag z z<|Ab<|Ad<|Af z z<|Bf ty3 g1 hC0.keep z z fun v1 h1=>?_
 obtain rfl:=BG h1
 refine Cb z z z<|be hF fun x1 hr1 hF=>cb BR z z (c_M_within a1 0 (w64 (ax1 - 1)) x1 hr1) fun w1 hB1=>have hC1:=hC0.grow hB1;B2 z z<|Ag z z<|Ab<|AL<|?_
 obtain rfl:=Aa hF
 exact AE z z<|⟨_,z,Bh hC1 _⟩
theorem c_M_isCost {w0:World} (a1:Int) (rr:Bool) (hF:M.isCost a1=some rr) :
 Calls Tryz.prog 112 [(I a1)].toArray w0 fun e w'=>∃v,e=.returned v∧Res w0 rr v w':=by
 refine A4 Tryz.func112 z z ?_
 have hC0:=AD w0
 unfold M.isCost at hF
 refine Ad<|Ag z z<|Ab<|Ad<|Af z z<|be hF fun x1 hr1 hF=>cb BR z z (c_M_within a1 0 99 x1 hr1) fun w1 hB1=>have hC1:=hC0.grow hB1;Ag z z<|Ab<|AL<|?_
 obtain rfl:=Aa hF
 exact AE z z<|⟨_,z,Bh hC1 _⟩
theorem c_Slices_IndexFunc_Lint_int_M_Method_fits_c1 {w0:World} (a1:(List Int)) (u1:Value) (g1:RO [] w0 u1 a1) (pb1:Nat) (ax1:Int) (g2:ROAt [] w0 pb1 0 ax1) (rr:Int) (hF:Slices.IndexFunc_Lint_int_M_Method_fits_c1 a1 ax1=some rr) :
 Calls Tryz.prog 105 [u1,(.func (.func 111) #[] #[(ptr pb1 0)])].toArray w0 fun e w'=>∃v,e=.returned v∧Res w0 rr v w':=by
 refine A4 Tryz.func105 z z ?_
 have hC0:=AD w0
 unfold Slices.IndexFunc_Lint_int_M_Method_fits_c1 at hF
 refine Ad<|Ag z z<|Ab<|AC<|Ad<|Af z z<|Bo Ap g1 z z<|Af z z<|Ab<|be hF fun r1 hr1 hF=>Bv (fun l w=>.inl ()=r1∧l=[]∧Below w0.heap.size w0 w∧Ctx [] w0 w []) ?_ ?_
 ·refine Bb<|wS (l':=[(0,u1),(1,(.func (.func 111) #[] #[(ptr pb1 0)])),(7,(I (List.length a1:Int))),(8,(I 0))]) ⟨z,z,z,z,Am⟩<|BC (fun k l w=>∃x1:Int,l=[(0,u1),(1,(.func (.func 111) #[] #[(ptr pb1 0)])),(7,(I (List.length a1:Int))),(8,(I x1))]∧Below w0.heap.size w0 w∧Ctx [] w0 w []∧Slices.IndexFunc_Lint_int_M_Method_fits_c1_l1 a1 ax1 k x1=some r1) FUEL ⟨0,z,(Aq _ _),hC0,hr1⟩<|?_
  clear hr1
  rintro k1 _ w1 ⟨x1,rfl,hB1,hC1,hL1⟩
  cases k1 with
  | zero=>rw [Slices.IndexFunc_Lint_int_M_Method_fits_c1_l1] at hL1; cases hL1
  | succ k1 =>
   rw [Slices.IndexFunc_Lint_int_M_Method_fits_c1_l1] at hL1
   refine Ad<|B6 z z z<|Ab<|AC<|AN z (fun hc1=>?_) (fun hc1=>?_)
   ·replace hL1:=AF hL1 hc1
    refine AR<|Ax<|AC<|Bb<|Ad<|Af z z<|Ag z z<|Ab<|Ad<|Af z z<|Af z z<|Af z z<|be hL1 fun x2 hx1 hL1=>Bc Ap ty3 g1 hx1 z z z fun b1 o1 h1=>Bf ty3 h1 hC1.keep z z fun v1 h2=>?_
    obtain rfl:=BG h2
    refine be hL1 fun x3 hr2 hL1=>Cu (cap:=[(ptr pb1 0)]) Tryz.call111 z z z (c_M_Method_fits_c1 x2 pb1 ax1 (g2.now hC1.keep) x3 hr2) fun _ w2 hv1=>?_
    obtain ⟨rfl,hB2⟩:=Cv hv1
    have hC2:=hC1.grow hB2
    refine Ab<|AN z (fun hc2=>?_) (fun hc2=>?_)
    ·replace hL1:=AF hL1 hc2
     refine Ad<|Af z z<|Ag z z<|Ab<|AL<|Bz<|A7<|A7<|Bz<|A7<|A7<|?_
     obtain rfl:=Aa hL1
     dsimp only at hF
     obtain rfl:=Aa hF
     exact AE z z<|⟨_,z,B7 hC2 _⟩
    replace hL1:=AG hL1 hc2
    exact AR<|Bi<|Ax<|Bt<|By z z z<|Af z z<|Ab<|Ay (l':=[(0,u1),(1,(.func (.func 111) #[] #[(ptr pb1 0)])),(7,(I (List.length a1:Int))),(8,(I (w64 (x1+1))))]) ⟨z,z,z,z,Am⟩<|⟨k1,AS _,w64 (x1+1),z,((Ao hB1).then hB2).below,hC2,hL1⟩
   replace hL1:=AG hL1 hc1
   refine BD (AY (AY (B1 ?_)))
   obtain rfl:=Aa hL1
   exact Ay (l':=[]) Am<|⟨z,z,(Ao hB1).below,hC1⟩
 rintro l2 _ w3 hs2 ⟨rfl,rfl,hB3,hC3⟩
 try dsimp only at hF
 refine Bj hs2 ?_
 clear hs2
 refine Ad<|Ag z z<|Ab<|AL<|?_
 obtain rfl:=Aa hF
 exact AE z z<|⟨_,z,B7 hC3 _⟩
theorem c_Slices_ContainsFunc_Lint_int_M_Method_fits_c1 {w0:World} (a1:(List Int)) (u1:Value) (g1:RO [] w0 u1 a1) (pb1:Nat) (ax1:Int) (g2:ROAt [] w0 pb1 0 ax1) (rr:Bool) (hF:Slices.ContainsFunc_Lint_int_M_Method_fits_c1 a1 ax1=some rr) :
 Calls Tryz.prog 93 [u1,(.func (.func 111) #[] #[(ptr pb1 0)])].toArray w0 fun e w'=>∃v,e=.returned v∧Res w0 rr v w':=by
 refine A4 Tryz.func93 z z ?_
 have hC0:=AD w0
 unfold Slices.ContainsFunc_Lint_int_M_Method_fits_c1 at hF
 refine Ad<|Ag z z<|Ab<|Ad<|Af z z<|Af z z<|be hF fun x1 hr1 hF=>ci Tryz.call105 z z (c_Slices_IndexFunc_Lint_int_M_Method_fits_c1 a1 u1 (g1.now hC0.keep) pb1 ax1 (g2.now hC0.keep) x1 hr1) fun w1 hB1=>have hC1:=hC0.grow hB1;C7 z z z<|Ag z z<|Ab<|AL<|?_
 obtain rfl:=Aa hF
 exact AE z z<|⟨_,z,Bh hC1 _⟩
theorem c_M_Method_fits {w0:World} (a1:(Int × (List Int) × Int × Int × Int)) (u1:Value) (g1:RO [] w0 u1 a1.2.1) (a2:Int) (rr:Bool) (hF:M.Method_fits a1 a2=some rr) :
 Calls Tryz.prog 108 [(.agg #[(I a1.1),u1,(I a1.2.2.1),(I a1.2.2.2.1),(I a1.2.2.2.2)]),(I a2)].toArray w0 fun e w'=>∃v,e=.returned v∧Res w0 rr v w':=by
 refine A4 Tryz.func108 z z ?_
 have hC0:=AD w0
 unfold M.Method_fits at hF
 refine Ad<|B0 (cs:=[(I a1.1),u1,(I a1.2.2.1),(I a1.2.2.2.1),(I a1.2.2.2.2)]) hC0 z z z fun b1 w1 hC1 hB1 hN1=>B0 (cs:=[(I a2)]) hC1 z z z fun b2 w2 hC2 hB2 hN2=>Ag z z<|Ab<|be hF fun r1 hr1 hF=>BP (fun l w=>∃x1:Bool,x1=r1∧l=[(4,(.bool x1))]∧Below w2.heap.size w2 w∧Ctx [] w0 w []) ?_ ?_
 ·refine Bt<|fd AO A2 z z z z<|At hC2 1 z z AT z z<|be hr1 fun x2 hr2 hr1=>cb Tryz.call110 z z (c_M_ascending a1.2.1 u1 (g1.now hC2.keep) x2 hr2) fun w4 hB4=>have hC4:=hC2.grow hB4;Af z z<|B3 (fun hc1=>?_) (fun hc1=>?_)
  ·replace hr1:=AF hr1 hc1
   refine Aj z z<|fd AO A2 z z z z<|Aj z z<|At hC4 1 z z AT z z<|Aj z z<|C3 z z<|be hr1 fun x3 hr3 hr1=>Aj z z<|cb Tryz.call93 z z (c_Slices_ContainsFunc_Lint_int_M_Method_fits_c1 a1.2.1 u1 (g1.now hC4.keep) b2 a2 (hC4.boxAt 0 z repw_int) x3 hr3) fun w5 hB5=>have hC5:=hC4.grow hB5;Aj z z<|B2 z z<|AX z z z<|Af z z<|B3 (fun hc2=>?_) (fun hc2=>?_)
   ·replace hr1:=AF hr1 hc2
    refine Aj z z<|fd AO Az z z z z<|Aj z z<|At hC5 1 z z AA z z<|be hr1 fun x4 hr4 hr1=>Aj z z<|cb BR z z (c_M_within a1.2.2.1 0 9 x4 hr4) fun w6 hB6=>have hC6:=hC5.grow hB6;AX z z z<|Af z z<|B3 (fun hc3=>?_) (fun hc3=>?_)
    ·replace hr1:=AF hr1 hc3
     refine Aj z z<|fd AO Az z z z z<|Aj z z<|At hC6 1 z z AA z z<|be hr1 fun x5 hr5 hr1=>Aj z z<|cb Tryz.call112 z z (c_M_isCost a1.2.2.2.1 x5 hr5) fun w7 hB7=>have hC7:=hC6.grow hB7;AX z z z<|Af z z<|B3 (fun hc4=>?_) (fun hc4=>?_)
     ·replace hr1:=AF hr1 hc4
      refine Aj z z<|fd AO Az z z z z<|Aj z z<|At hC7 1 z z AA z z<|be hr1 fun x6 hr6 hr1=>Aj z z<|cb BR z z (c_M_within a1.2.2.2.2 1 99 x6 hr6) fun w9 hB8=>have hC8:=hC7.grow hB8;AX z z z<|Ag z z<|Ab<|?_
      obtain rfl:=Aa hr1
      have hC9:=hC8.h0
      exact Ay (l':=[(4,(.bool x6))]) ⟨z,Am⟩<|⟨x6,z,z,(((((Ao hB4).then hB5).then hB6).then hB7).then hB8).below,hC9⟩
     replace hr1:=AG hr1 hc4
     refine gs z z z z<|gs z z z z<|gs z z z z<|AH z z z<|Ag z z<|Ab<|?_
     obtain rfl:=Aa hr1
     have hC10:=hC7.h0
     exact Ay (l':=[(4,(.bool false))]) ⟨z,Am⟩<|⟨false,z,z,((((Ao hB4).then hB5).then hB6).then hB7).below,hC10⟩
    replace hr1:=AG hr1 hc3
    refine gs z z z z<|gs z z z z<|gs z z z z<|AH z z z<|Af z z<|gs z z z z<|gs z z z z<|gs z z z z<|AH z z z<|Ag z z<|Ab<|?_
    obtain rfl:=Aa hr1
    have hC11:=hC6.h0
    exact Ay (l':=[(4,(.bool false))]) ⟨z,Am⟩<|⟨false,z,z,(((Ao hB4).then hB5).then hB6).below,hC11⟩
   replace hr1:=AG hr1 hc2
   refine gs z z z z<|gs z z z z<|gs z z z z<|AH z z z<|Af z z<|gs z z z z<|gs z z z z<|gs z z z z<|AH z z z<|Af z z<|gs z z z z<|gs z z z z<|gs z z z z<|AH z z z<|Ag z z<|Ab<|?_
   obtain rfl:=Aa hr1
   have hC12:=hC5.h0
   exact Ay (l':=[(4,(.bool false))]) ⟨z,Am⟩<|⟨false,z,z,((Ao hB4).then hB5).below,hC12⟩
  replace hr1:=AG hr1 hc1
  refine gs z z z z<|gs z z z z<|gs z z z z<|gs z z z z<|gs z z z z<|AH z z z<|Af z z<|gs z z z z<|gs z z z z<|gs z z z z<|AH z z z<|Af z z<|gs z z z z<|gs z z z z<|gs z z z z<|AH z z z<|Af z z<|gs z z z z<|gs z z z z<|gs z z z z<|AH z z z<|Ag z z<|Ab<|?_
  obtain rfl:=Aa hr1
  have hC13:=hC4.h0
  exact Ay (l':=[(4,(.bool false))]) ⟨z,Am⟩<|⟨false,z,z,(Ao hB4).below,hC13⟩
 rintro _ w3 ⟨x1,rfl,rfl,hB3,hC3⟩
 try dsimp only at hF
 refine AL ?_
 obtain rfl:=Aa hF
 exact AE z z<|⟨_,z,Bh hC3 _⟩
theorem c_M_IsMethod {w0:World} (a1:(List Int)) (u1:Value) (g1:RO [] w0 u1 a1) (a2:(Int × (List Int) × Int × Int × Int)) (u2:Value) (g2:RO [] w0 u2 a2.2.1) (rr:Bool) (hF:M.IsMethod a1 a2=some rr) :
 Calls Tryz.prog 102 [u1,(.agg #[(I a2.1),u2,(I a2.2.2.1),(I a2.2.2.2.1),(I a2.2.2.2.2)])].toArray w0 fun e w'=>∃v,e=.returned v∧Res w0 rr v w':=by
 refine A4 Tryz.func102 z z ?_
 have hC0:=AD w0
 unfold M.IsMethod at hF
 refine Ad<|B0 (cs:=[(I a2.1),u2,(I a2.2.2.1),(I a2.2.2.2.1),(I a2.2.2.2.2)]) hC0 z z z fun b1 w1 hC1 hB1 hN1=>Ag z z<|Ab<|be hF fun r1 hr1 hF=>BP (fun l w=>∃x1:Bool,x1=r1∧l=[(4,(.bool x1))]∧Below w1.heap.size w1 w∧Ctx [] w0 w []) ?_ ?_
 ·refine W_drawn 14 z hmix fun w3 hB3=>have hC3:=hC1.grow hB3;tm 0 z z z<|tf 1 AO Az z z z z z<|oe 2 z<|At hC3 0 z z AA z z<|Ab<|be hr1 fun x2 hr2 hr1=>oe 3 z<|cb Tryz.call70 z z (c_M_hasRel a1 u1 (g1.now hC3.keep) a2.1 x2 hr2) fun w4 hB4=>have hC4:=hC3.grow hB4;Ab<|tm 4 z z z<|BE (fun hc1=>?_) (fun hc1=>?_)
  ·replace hr1:=AF hr1 hc1
   refine tn 6 z z z z z<|tg 7 z z z z (B5 AO z z (fun w=>⟨_,Az w⟩) z)<|Aj z z<|fd AO Az z z z z<|Ab<|be hr1 fun x3 hx1 hr1=>wAS (l':=[(0,u1),(1,(.agg #[(I a2.1),u2,(I a2.2.2.1),(I a2.2.2.2.1),(I a2.2.2.2.2)])),(3,(ptr b1 0)),(4,(.bool false)),(5,u1),(6,(ptr b1 0)),(7,(I a2.1)),(8,(.bool x2)),(9,(.bool true)),(11,u1),(12,(ptr b1 0))]) ⟨z,z,z,z,z,z,z,z,z,z,z,Am⟩<|Bm [⟨5,[],fun vs=>AU (.agg #[(I a2.1),u2,(I a2.2.2.1),(I a2.2.2.2.1),(I a2.2.2.2.2)]),[]⟩,⟨8,[],fun vs=>AU (I a2.1),[]⟩,⟨9,[],fun vs=>Ce [] w0 x3,[]⟩,⟨10,[],fun vs=>AU (I x3),[]⟩] [[],[],[8],[9]] 3 z (by kernel_rfl) (by kernel_rfl) z ?_ ?_
   ·refine An z ?_ ?_
    ·intro w5 hB5
     refine Av<|⟨_,z,?_⟩
     exact Aj z z<|Ar [(I a2.1),u2,(I a2.2.2.1),(I a2.2.2.2.1),(I a2.2.2.2.2)] (hC4.grow hB5) 0 z z z Cc BA z z<|Ab<|A0 (Aq _ _) z z ⟨z,z⟩
    refine An z ?_ ?_
    ·intro w5 hB5
     refine Av<|⟨_,z,?_⟩
     exact Aj z z<|At (hC4.grow hB5) 0 z z AA z z<|Ab<|A0 (Aq _ _) z z ⟨z,z⟩
    refine An z ?_ ?_
    ·intro w5 hB5
     refine A6 z z z ?_
     rintro _ _ ⟨rfl,rfl⟩ _
     refine Av<|⟨_,z,?_⟩
     exact Aj z z<|Bc Ap ty3 g1 hx1 z z z fun b2 o1 h1=>Ab<|A0 (Aq _ _) z z ⟨z,_,_,z,h1⟩
    refine An z ?_ ?_
    ·intro w5 hB5
     refine A6 z z z ?_
     rintro _ _ ⟨rfl,b2,o1,rfl,h1⟩ _
     refine Av<|⟨_,z,?_⟩
     refine Aj z z<|Bf ty3 h1 (hC4.keep.then hB5) z z fun v1 h2=>?_
     obtain rfl:=BG h2
     exact Ab<|A0 (Aq _ _) z z ⟨z,z⟩
    exact Bd
   intro w6 hB6
   refine Au z z z ?_
   rintro _ _ ⟨rfl,rfl⟩
   refine Au z z z ?_
   rintro _ _ ⟨rfl,rfl⟩
   refine Au z z z ?_
   rintro _ _ ⟨rfl,b2,o1,rfl,h1⟩
   refine Au z z z ?_
   rintro _ _ ⟨rfl,rfl⟩
   refine Bn fun hn1 hb1=>have hC5:=hC4.grow hB6;be hr1 fun x4 hr3 hr1=>oe 11 z<|Aj z z<|cb Tryz.call108 z z (c_M_Method_fits (a2.1,a2.2.1,a2.2.2.1,a2.2.2.2.1,a2.2.2.2.2) u2 (g2.now hC5.keep) x3 x4 hr3) fun w7 hB7=>have hC6:=hC5.grow hB7;Ab<|tp 12 z z z z<|ta 13 z z z<|dn<|?_
   obtain rfl:=Aa hr1
   have hC7:=hC6.h0
   exact Ay (l':=[(4,(.bool x4))]) ⟨z,Am⟩<|⟨x4,z,z,((((Ao hB3).then hB4).then hB6).then hB7).below,hC7⟩
  replace hr1:=AG hr1 hc1
  refine sk 5 z z z z z<|sk 6 z z z z z<|sk 7 z z z z z<|sk 8 z z z z z<|sk 9 z z z z z<|sk 10 z z z z z<|sk 11 z z z z z<|tq 12 z z z z<|ta 13 z z z<|dn<|?_
  obtain rfl:=Aa hr1
  have hC8:=hC4.h0
  exact Ay (l':=[(4,(.bool false))]) ⟨z,Am⟩<|⟨false,z,z,((Ao hB3).then hB4).below,hC8⟩
 rintro _ w2 ⟨x1,rfl,rfl,hB2,hC2⟩
 try dsimp only at hF
 refine AL ?_
 obtain rfl:=Aa hF
 exact AE z z<|⟨_,z,Bh hC2 _⟩
theorem c_M_AreMethods_c1 {w0:World} (a1:(Int × (List Int) × Int × Int × Int)) (u1:Value) (g1:RO [] w0 u1 a1.2.1) (pb1:Nat) (ax1:(List Int)) (g2:ROAt [] w0 pb1 0 ax1) (rr:Bool) (hF:M.AreMethods_c1 a1 ax1=some rr) :
 Calls Tryz.prog 101 [(.agg #[(I a1.1),u1,(I a1.2.2.1),(I a1.2.2.2.1),(I a1.2.2.2.2)]),(ptr pb1 0)].toArray w0 fun e w'=>∃v,e=.returned v∧Res w0 rr v w':=by
 refine A4 Tryz.func101 z z ?_
 have hC0:=AD w0
 unfold M.AreMethods_c1 at hF
 refine Ad<|B0 (cs:=[(I a1.1),u1,(I a1.2.2.1),(I a1.2.2.2.1),(I a1.2.2.2.2)]) hC0 z z z fun b1 w1 hC1 hB1 hN1=>Ag z z<|Ab<|Ad<|Bf ty24 g2 hC1.keep z z fun v1 h1=>Ar [(I a1.1),u1,(I a1.2.2.1),(I a1.2.2.2.1),(I a1.2.2.2.2)] hC1 0 z z z Cc BA z z<|be hF fun x1 hr1 hF=>cb Tryz.call102 z z (c_M_IsMethod ax1 v1 (h1.now hC1.keep) (a1.1,a1.2.1,a1.2.2.1,a1.2.2.2.1,a1.2.2.2.2) u1 (g1.now hC1.keep) x1 hr1) fun w2 hB2=>have hC2:=hC1.grow hB2;B2 z z<|Ag z z<|Ab<|AL<|?_
 obtain rfl:=Aa hF
 exact AE z z<|⟨_,z,Bh hC2 _⟩
theorem c_Slices_IndexFunc_Limpl_Method_impl_Method_M_AreMethods_c1 {w0:World} (a1:(List (Int × (List Int) × Int × Int × Int))) (u1:Value) (g1:RO [] w0 u1 a1) (pb1:Nat) (ax1:(List Int)) (g2:ROAt [] w0 pb1 0 ax1) (rr:Int) (hF:Slices.IndexFunc_Limpl_Method_impl_Method_M_AreMethods_c1 a1 ax1=some rr) :
 Calls Tryz.prog 107 [u1,(.func (.func 101) #[] #[(ptr pb1 0)])].toArray w0 fun e w'=>∃v,e=.returned v∧Res w0 rr v w':=by
 refine A4 Tryz.func107 z z ?_
 have hC0:=AD w0
 unfold Slices.IndexFunc_Limpl_Method_impl_Method_M_AreMethods_c1 at hF
 refine Ad<|Ag z z<|Ab<|AC<|Ad<|Af z z<|Bo Bl g1 z z<|Af z z<|Ab<|be hF fun r1 hr1 hF=>Bv (fun l w=>.inl ()=r1∧l=[]∧Below w0.heap.size w0 w∧Ctx [] w0 w []) ?_ ?_
 ·refine Bb<|wS (l':=[(0,u1),(1,(.func (.func 101) #[] #[(ptr pb1 0)])),(7,(I (List.length a1:Int))),(8,(I 0))]) ⟨z,z,z,z,Am⟩<|BC (fun k l w=>∃x1:Int,l=[(0,u1),(1,(.func (.func 101) #[] #[(ptr pb1 0)])),(7,(I (List.length a1:Int))),(8,(I x1))]∧Below w0.heap.size w0 w∧Ctx [] w0 w []∧Slices.IndexFunc_Limpl_Method_impl_Method_M_AreMethods_c1_l1 a1 ax1 k x1=some r1) FUEL ⟨0,z,(Aq _ _),hC0,hr1⟩<|?_
  clear hr1
  rintro k1 _ w1 ⟨x1,rfl,hB1,hC1,hL1⟩
  cases k1 with
  | zero=>rw [Slices.IndexFunc_Limpl_Method_impl_Method_M_AreMethods_c1_l1] at hL1; cases hL1
  | succ k1 =>
   rw [Slices.IndexFunc_Limpl_Method_impl_Method_M_AreMethods_c1_l1] at hL1
   refine Ad<|B6 z z z<|Ab<|AC<|AN z (fun hc1=>?_) (fun hc1=>?_)
   ·replace hL1:=AF hL1 hc1
    refine AR<|Ax<|AC<|Bb<|Ad<|Af z z<|Ag z z<|Ab<|Ad<|Af z z<|Af z z<|Af z z<|be hL1 fun x2 hx1 hL1=>Bc Bl ty93 g1 hx1 z z z fun b1 o1 h1=>Bf ty93 h1 hC1.keep z z fun v1 h2=>?_
    obtain ⟨v2,rfl,h3⟩:=CX h2
    refine be hL1 fun x3 hr2 hL1=>Cu (cap:=[(ptr pb1 0)]) Tryz.call101 z z z (c_M_AreMethods_c1 x2 v2 (h3.now hC1.keep) pb1 ax1 (g2.now hC1.keep) x3 hr2) fun _ w2 hv1=>?_
    obtain ⟨rfl,hB2⟩:=Cv hv1
    have hC2:=hC1.grow hB2
    refine Ab<|AN z (fun hc2=>?_) (fun hc2=>?_)
    ·replace hL1:=AF hL1 hc2
     refine Ad<|Af z z<|Ag z z<|Ab<|AL<|Bz<|A7<|A7<|Bz<|A7<|A7<|?_
     obtain rfl:=Aa hL1
     dsimp only at hF
     obtain rfl:=Aa hF
     exact AE z z<|⟨_,z,B7 hC2 _⟩
    replace hL1:=AG hL1 hc2
    exact AR<|Bi<|Ax<|Bt<|By z z z<|Af z z<|Ab<|Ay (l':=[(0,u1),(1,(.func (.func 101) #[] #[(ptr pb1 0)])),(7,(I (List.length a1:Int))),(8,(I (w64 (x1+1))))]) ⟨z,z,z,z,Am⟩<|⟨k1,AS _,w64 (x1+1),z,((Ao hB1).then hB2).below,hC2,hL1⟩
   replace hL1:=AG hL1 hc1
   refine BD (AY (AY (B1 ?_)))
   obtain rfl:=Aa hL1
   exact Ay (l':=[]) Am<|⟨z,z,(Ao hB1).below,hC1⟩
 rintro l2 _ w3 hs2 ⟨rfl,rfl,hB3,hC3⟩
 try dsimp only at hF
 refine Bj hs2 ?_
 clear hs2
 refine Ad<|Ag z z<|Ab<|AL<|?_
 obtain rfl:=Aa hF
 exact AE z z<|⟨_,z,B7 hC3 _⟩
theorem c_Slices_ContainsFunc_Limpl_Method_impl_Method_M_AreMethods_c1 {w0:World} (a1:(List (Int × (List Int) × Int × Int × Int))) (u1:Value) (g1:RO [] w0 u1 a1) (pb1:Nat) (ax1:(List Int)) (g2:ROAt [] w0 pb1 0 ax1) (rr:Bool) (hF:Slices.ContainsFunc_Limpl_Method_impl_Method_M_AreMethods_c1 a1 ax1=some rr) :
 Calls Tryz.prog 100 [u1,(.func (.func 101) #[] #[(ptr pb1 0)])].toArray w0 fun e w'=>∃v,e=.returned v∧Res w0 rr v w':=by
 refine A4 Tryz.func100 z z ?_
 have hC0:=AD w0
 unfold Slices.ContainsFunc_Limpl_Method_impl_Method_M_AreMethods_c1 at hF
 refine Ad<|Ag z z<|Ab<|Ad<|Af z z<|Af z z<|be hF fun x1 hr1 hF=>ci Tryz.call107 z z (c_Slices_IndexFunc_Limpl_Method_impl_Method_M_AreMethods_c1 a1 u1 (g1.now hC0.keep) pb1 ax1 (g2.now hC0.keep) x1 hr1) fun w1 hB1=>have hC1:=hC0.grow hB1;C7 z z z<|Ag z z<|Ab<|AL<|?_
 obtain rfl:=Aa hF
 exact AE z z<|⟨_,z,Bh hC1 _⟩
theorem c_M_AreMethods {w0:World} (a1:(List Int)) (u1:Value) (g1:RO [] w0 u1 a1) (a2:(List (Int × (List Int) × Int × Int × Int))) (u2:Value) (g2:RO [] w0 u2 a2) (rr:Bool) (hF:M.AreMethods a1 a2=some rr) :
 Calls Tryz.prog 81 [u1,u2].toArray w0 fun e w'=>∃v,e=.returned v∧Res w0 rr v w':=by
 refine A4 Tryz.func81 z z ?_
 have hC0:=AD w0
 unfold M.AreMethods at hF
 refine Ad<|B0 (cs:=[u1]) hC0 (Ca g1) z z fun b1 w1 hC1 hB1 hN1=>Ag z z<|Ab<|be hF fun r1 hr1 hF=>BP (fun l w=>∃x1:Bool,x1=r1∧l=[(4,(.bool x1))]∧Below w1.heap.size w1 w∧Ctx [] w0 w []) ?_ ?_
 ·refine Bt<|At hC1 0 z z AT z z<|be hr1 fun x2 hr2 hr1=>cb Tryz.call80 z z (c_M_IsSchema a1 u1 (g1.now hC1.keep) x2 hr2) fun w3 hB3=>have hC3:=hC1.grow hB3;Af z z<|B3 (fun hc1=>?_) (fun hc1=>?_)
  ·replace hr1:=AF hr1 hc1
   refine Aj z z<|Af z z<|Aj z z<|Bo Bl g2 z z<|Aj z z<|CH z z z<|AX z z z<|Af z z<|B3 (fun hc2=>?_) (fun hc2=>?_)
   ·replace hr1:=AF hr1 hc2
    refine Aj z z<|Af z z<|Aj z z<|C3 z z<|be hr1 fun x3 hr3 hr1=>Aj z z<|cb Tryz.call100 z z (c_Slices_ContainsFunc_Limpl_Method_impl_Method_M_AreMethods_c1 a2 u2 (g2.now hC3.keep) b1 a1 (hC3.boxAt 0 z (repw_slice (g1.now hC3.keep))) x3 hr3) fun w4 hB4=>have hC4:=hC3.grow hB4;Aj z z<|B2 z z<|AX z z z<|Ag z z<|Ab<|?_
    obtain rfl:=Aa hr1
    have hC5:=hC4.h0
    exact Ay (l':=[(4,(.bool (!x3)))]) ⟨z,Am⟩<|⟨(!x3),z,z,((Ao hB3).then hB4).below,hC5⟩
   replace hr1:=AG hr1 hc2
   refine gs z z z z<|gs z z z z<|gs z z z z<|gs z z z z<|AH z z z<|Ag z z<|Ab<|?_
   obtain rfl:=Aa hr1
   have hC6:=hC3.h0
   exact Ay (l':=[(4,(.bool false))]) ⟨z,Am⟩<|⟨false,z,z,(Ao hB3).below,hC6⟩
  replace hr1:=AG hr1 hc1
  refine gs z z z z<|gs z z z z<|gs z z z z<|AH z z z<|Af z z<|gs z z z z<|gs z z z z<|gs z z z z<|gs z z z z<|AH z z z<|Ag z z<|Ab<|?_
  obtain rfl:=Aa hr1
  have hC7:=hC3.h0
  exact Ay (l':=[(4,(.bool false))]) ⟨z,Am⟩<|⟨false,z,z,(Ao hB3).below,hC7⟩
 rintro _ w2 ⟨x1,rfl,rfl,hB2,hC2⟩
 try dsimp only at hF
 refine AL ?_
 obtain rfl:=Aa hF
 exact AE z z<|⟨_,z,Bh hC2 _⟩
end Go.Gx.Px
