/- The contracts of the Go functions against the pure functions, printed by program. Conditions: each says them. -/
import Derived.Test.YthidohmobbomfaaGreatC3
set_option linter.unusedVariables false
set_option linter.unusedSimpArgs false
set_option maxRecDepth 100000
set_option maxHeartbeats 4000000
namespace Go.Gx.Px
open Go.Proofs Go.RowKit
open K9
theorem c_M_matchAll {w0:World} (a1:(List ((List Int) × (List Int)))) (u1:Value) (g1:RO [] w0 u1 a1) (a2:(Int × (List Int))) (u2:Value) (g2:RO [] w0 u2 a2.2) (a3:(List (Int × (List Int)))) (u3:Value) (g3:RO [] w0 u3 a3) (rr:(List ((List Int) × (List Int)))) (hF:M.matchAll a1 a2 a3=some rr) :
 Calls Tryz.prog 178 [u1,(.agg #[(I a2.1),u2]),u3].toArray w0 fun e w'=>∃v,e=.returned v∧Res w0 rr v w':=by
 refine Aw Tryz.func178 z z ?_
 have hC0:=A1 w0
 unfold M.matchAll at hF
 refine Ac<|Bb (cs:=[(I a2.1),u2]) hC0 z z z fun b1 w1 hC1 hB1 hN1=>Ae z z<|Ab<|Ac<|A8 (vs:=[]) hC1 B5 ty149 z z z z (by simp) z z fun b2 w2 hC2 hB2=>?_
 have hC3:=hC2.row0 (α:=((List Int) × (List Int)))
 have hC4:=hC3.front 1 z
 dsimp only [List.eraseIdx,List.cons_append,List.nil_append,List.append_nil] at hC4
 have hC5:Ctx [] w0 w2 (Ad (.slice (some ⟨b2,0,none⟩) 0 0) (([]:List ((List Int) × (List Int))):List ((List Int) × (List Int)))::[Ai b1 [(I a2.1),u2]]):=hC4.rowOwn (by simp [maxLen])
 refine Ae z z<|Ab<|A0<|Ac<|Af z z<|AL B5 g1 z z<|Af z z<|Ab<|be hF fun r1 hr1 hF=>Bf (fun l w=>∃v2:Value,∃x3:(List ((List Int) × (List Int))),x3=r1∧l=[(7,v2)]∧Ctx [] w0 w [Ad v2 (x3:(List ((List Int) × (List Int))))]) ?_ ?_
 ·refine AB<|wS (l':=[(2,u3),(4,(ptr b1 0)),(7,(.slice (some ⟨b2,0,none⟩) 0 0)),(15,u1),(16,(I (List.length a1:Int))),(17,(I 0))]) ⟨z,z,z,z,z,z,Ah⟩<|Bo (fun k l w=>∃v1:Value,∃x1:(List ((List Int) × (List Int))),∃x2:Int,l=[(2,u3),(4,(ptr b1 0)),(7,v1),(15,u1),(16,(I (List.length a1:Int))),(17,(I x2))]∧Ctx [] w0 w [Ad v1 (x1:(List ((List Int) × (List Int)))),Ai b1 [(I a2.1),u2]]∧M.matchAll_l1 a1 a3 a2 k x1 x2=some r1) FUEL ⟨(.slice (some ⟨b2,0,none⟩) 0 0),([]:List ((List Int) × (List Int))),0,z,hC5,hr1⟩<|?_
  clear hr1
  rintro k1 _ w3 ⟨v1,x1,x2,rfl,hC6,hL1⟩
  cases k1 with
  | zero=>rw [M.matchAll_l1] at hL1; cases hL1
  | succ k1 =>
   rw [M.matchAll_l1] at hL1
   refine Ac<|AW z z z<|Ab<|A0<|A7 z (fun hc1=>?_) (fun hc1=>?_)
   ·replace hL1:=A9 hL1 hc1
    refine A6<|Aj<|A0<|AB<|Ac<|be hL1 fun x4 hx1 hL1=>AE B5 ty149 g1 hx1 z z z fun b3 o1 h1=>AH ty149 h1 hC6.keep z z fun v3 h2=>?_
    obtain ⟨v4,v5,rfl,h3,h4⟩:=CD h2
    refine B0 hC6 zero149 z z fun b4 w4 hC7 hB4 hN2=>AS (cs':=[v4,v5]) (new:=[v4,v5]) hC7 0 z z (fac (B1 h3)<|fac (B1 h4)<|fa0) z Bh z z fun w5 hC8 hKp1=>?_
    try dsimp only [List.set] at hC8
    have hk1:=AI (Ap hB4) hN2 hKp1
    refine Ab<|Ac<|Af z z<|AL Ao g3 z z<|Af z z<|Ab<|be hL1 fun r2 hr2 hL1=>Bf (fun l w=>∃v7:Value,∃x7:(List ((List Int) × (List Int))),x7=r2∧l=[(2,u3),(4,(ptr b1 0)),(7,v7),(15,u1),(16,(I (List.length a1:Int))),(17,(I x2))]∧Ctx [] w0 w [Ad v7 (x7:(List ((List Int) × (List Int)))),Ai b1 [(I a2.1),u2]]) ?_ ?_
    ·refine AB<|wS (l':=[(2,u3),(4,(ptr b1 0)),(7,v1),(9,(ptr b4 0)),(15,u1),(16,(I (List.length a1:Int))),(17,(I x2)),(21,u3),(22,(I (List.length a3:Int))),(23,(I 0))]) ⟨z,z,z,z,z,z,z,z,z,z,Ah⟩<|Bo (fun k l w=>∃v6:Value,∃x5:(List ((List Int) × (List Int))),∃x6:Int,l=[(2,u3),(4,(ptr b1 0)),(7,v6),(9,(ptr b4 0)),(15,u1),(16,(I (List.length a1:Int))),(17,(I x2)),(21,u3),(22,(I (List.length a3:Int))),(23,(I x6))]∧Ctx [] w0 w [Ai b4 [v4,v5],Ad v6 (x5:(List ((List Int) × (List Int)))),Ai b1 [(I a2.1),u2]]∧M.matchAll_l2 a3 x4 a2 k x5 x6=some r2) FUEL ⟨v1,x1,0,z,hC8,hr2⟩<|?_
     clear hr2
     rintro k2 _ w6 ⟨v6,x5,x6,rfl,hC9,hL2⟩
     cases k2 with
     | zero=>rw [M.matchAll_l2] at hL2; cases hL2
     | succ k2 =>
      rw [M.matchAll_l2] at hL2
      refine Ac<|AW z z z<|Ab<|A0<|A7 z (fun hc2=>?_) (fun hc2=>?_)
      ·replace hL2:=A9 hL2 hc2
       refine A6<|Aj<|A0<|AB<|Ac<|be hL2 fun x8 hx2 hL2=>AE Ao ty77 g3 hx2 z z z fun b5 o2 h5=>AH ty77 h5 hC9.keep z z fun v8 h6=>?_
       obtain ⟨v9,rfl,h7⟩:=BM h6
       refine B0 hC9 zero77 z z fun b6 w7 hC10 hB6 hN3=>AS (cs':=[(I x8.1),v9]) (new:=[(I x8.1),v9]) hC10 0 z z (fac z<|fac (B1 h7)<|fa0) z Br z z fun w9 hC11 hKp2=>?_
       try dsimp only [List.set] at hC11
       have hk2:=AI (Ap hB6) hN3 hKp2
       refine Ab<|Ac<|A4 [v4,v5] hC11 1 z z z B6 Bh z z<|A4 [(I a2.1),u2] hC11 3 z z z C6 Cd z z<|A4 [(I x8.1),v9] hC11 0 z z z B4 Br z z<|be hL2 fun x9 hr3 hL2=>Bc Tryz.call211 z z (c_M_MatchAtom (x4.1,x4.2) v4 (h3.now hC11.keep) v5 (h4.now hC11.keep) (a2.1,a2.2) u2 (g2.now hC11.keep) (x8.1,x8.2) v9 (h7.now hC11.keep) x9 hr3)<|?_
       rintro _ w10 ⟨hB7,v10,v11,F1,F2,rfl,hv1,hv2,hn1,hb1⟩
       obtain ⟨rfl,rfl⟩:=val_bool hv2
       have hC12:=hC11.pushL hB7 (Bs:=[Ad v10 x9.1]) (Fs:=[F1]) ⟨F1,_,z,hv1,z⟩ (by simpa using hn1) (fun b h=>hb1 b (by simpa using h))
       obtain ⟨v12,v13,rfl,hC13⟩:=st149_own hC12
       refine Af z z<|BJ z z z<|BJ z z z<|B0 hC13 zero149 z z fun b7 w11 hC14 hB8 hN4=>AS (cs':=[v12,v13]) (new:=[v12,v13]) hC14 0 z z (fac (B1 (hC14.ro 1 z))<|fac (B1 (hC14.ro 2 z))<|fa0) z Bh z z fun w12 hC15 hKp3=>?_
       try dsimp only [List.set] at hC15
       have hk3:=AI ((hk2.then hB7).then hB8) (AM (hk2.then hB7).size hN4) hKp3
       have hk4:=AI ((Ap hB7).then hB8) (AM (Ap hB7).size hN4) hKp3
       have hk5:=AI (Ap hB8) hN4 hKp3
       refine Ae z z<|Ab<|Ac<|Af z z<|Ab<|be hL2 fun r3 hr4 hL2=>Bf (fun l w=>∃v14:Value,∃x10:(List ((List Int) × (List Int))),x10=r3∧l=[(2,u3),(4,(ptr b1 0)),(7,v14),(9,(ptr b4 0)),(15,u1),(16,(I (List.length a1:Int))),(17,(I x2)),(21,u3),(22,(I (List.length a3:Int))),(23,(I x6))]∧Ctx [] w0 w [Ai b4 [v4,v5],Ad v14 (x10:(List ((List Int) × (List Int)))),Ai b1 [(I a2.1),u2]]) ?_ ?_
       ·refine A7 z (fun hc3=>?_) (fun hc3=>?_)
        ·replace hr4:=A9 hr4 hc3
         refine AX<|Af z z<|A4 [v12,v13] hC15 0 z z z B6 Bh z z<|A8 (vs:=[(.agg #[v12,v13])]) hC15 B5 ty149 z z z z (fac z<|fa0) z z fun b8 w14 hC17 hB10=>?_
         have hC18:=hC17.row0 (α:=((List Int) × (List Int)))
         have hC20:=hC18.f4
         have hC21:=hC20.f4
         have hC19:=Ci v12 x9.1.1 v13 x9.1.2 hC21
         have hC22:=hC19.row1
         have hC23:=hC22.front 1 z
         dsimp only [List.eraseIdx,List.cons_append,List.nil_append,List.append_nil] at hC23
         have hC24:Ctx [] w0 w14 (Ad (.slice (some ⟨b8,0,none⟩) 1 1) ([(x9.1.1,x9.1.2)]:List ((List Int) × (List Int)))::[Ai b7 [v12,v13],Ai b6 [(I x8.1),v9],Ai b4 [v4,v5],Ad v6 (x5:(List ((List Int) × (List Int)))),Ai b1 [(I a2.1),u2]]):=hC23.rowOwn (by simp [maxLen])
         refine be hr4 fun x11 hx3 hr4=>BA hC24 3 z B5 ty149 z hx3 z z z fun v15 w15 hC25=>?_
         try dsimp only [List.set] at hC25
         refine Ae z z<|Ab<|?_
         obtain rfl:=Aa hr4
         have hC27:=hC25.f4
         have hC28:=hC27.f4
         have hC29:=hC28.f4
         have hC30:=hC29.h3
         exact An (l':=[(2,u3),(4,(ptr b1 0)),(7,v15),(9,(ptr b4 0)),(15,u1),(16,(I (List.length a1:Int))),(17,(I x2)),(21,u3),(22,(I (List.length a3:Int))),(23,(I x6))]) ⟨z,z,z,z,z,z,z,z,z,z,Ah⟩<|⟨v15,x11,z,z,hC30⟩
        replace hr4:=AA hr4 hc3
        refine A6 ?_
        obtain rfl:=Aa hr4
        have hC31:=hC15.f6
        have hC32:=hC31.f6
        have hC33:=hC32.f6
        have hC34:=hC33.h3
        exact An (l':=[(2,u3),(4,(ptr b1 0)),(7,v6),(9,(ptr b4 0)),(15,u1),(16,(I (List.length a1:Int))),(17,(I x2)),(21,u3),(22,(I (List.length a3:Int))),(23,(I x6))]) ⟨z,z,z,z,z,z,z,z,z,z,Ah⟩<|⟨v6,x5,z,z,hC34⟩
       rintro l3 _ w13 hs3 ⟨v14,x10,rfl,rfl,hC16⟩
       try dsimp only at hL2
       refine AJ<|AO hs3<|?_
       clear hs3
       exact AX<|Be z z z<|Af z z<|Ab<|An (l':=[(2,u3),(4,(ptr b1 0)),(7,v14),(9,(ptr b4 0)),(15,u1),(16,(I (List.length a1:Int))),(17,(I x2)),(21,u3),(22,(I (List.length a3:Int))),(23,(I (w64 (x6+1))))]) ⟨z,z,z,z,z,z,z,z,z,z,Ah⟩<|⟨k2,Az _,v14,x10,w64 (x6+1),z,hC16,hL2⟩
      replace hL2:=AA hL2 hc2
      refine Bm (A2 (A2 (AT ?_)))
      obtain rfl:=Aa hL2
      have hC35:=hC9.f2
      have hC36:=hC35.f2
      have hC37:=hC36.h2
      exact An (l':=[(2,u3),(4,(ptr b1 0)),(7,v6),(15,u1),(16,(I (List.length a1:Int))),(17,(I x2))]) ⟨z,z,z,z,z,z,Ah⟩<|⟨v6,x5,z,z,hC37⟩
    rintro l4 _ w16 hs4 ⟨v7,x7,rfl,rfl,hC38⟩
    try dsimp only at hL1
    refine AJ<|AO hs4<|?_
    clear hs4
    exact AX<|Be z z z<|Af z z<|Ab<|An (l':=[(2,u3),(4,(ptr b1 0)),(7,v7),(15,u1),(16,(I (List.length a1:Int))),(17,(I (w64 (x2+1))))]) ⟨z,z,z,z,z,z,Ah⟩<|⟨k1,Az _,v7,x7,w64 (x2+1),z,hC38,hL1⟩
   replace hL1:=AA hL1 hc1
   refine Bm (A2 (A2 (AT ?_)))
   obtain rfl:=Aa hL1
   have hC39:=hC6.h1
   exact An (l':=[(7,v1)]) ⟨z,Ah⟩<|⟨v1,x1,z,z,hC39⟩
 rintro l5 _ w17 hs5 ⟨v2,x3,rfl,rfl,hC40⟩
 try dsimp only at hF
 refine AO hs5 ?_
 clear hs5
 refine Ac<|Af z z<|Ae z z<|Ab<|AC<|?_
 obtain rfl:=Aa hF
 exact Ay z z<|⟨_,z,B7 hC40 0 z⟩
theorem c_M_BindingsOf {w0:World} (a1:((List Int) × (List (Int × (List Int))))) (u1:Value) (g1:RO [] w0 u1 a1.1) (u2:Value) (g2:RO [] w0 u2 a1.2) (a2:(List (Int × (List Int)))) (u3:Value) (g3:RO [] w0 u3 a2) (rr:(List ((List Int) × (List Int)))) (hF:M.BindingsOf a1 a2=some rr) :
 Calls Tryz.prog 125 [(.agg #[u1,u2]),u3].toArray w0 fun e w'=>∃v,e=.returned v∧Res w0 rr v w':=by
 refine Aw Tryz.func125 z z ?_
 have hC0:=A1 w0
 unfold M.BindingsOf at hF
 refine Ac<|Bb (cs:=[u1,u2]) hC0 z z z fun b1 w1 hC1 hB1 hN1=>Ae z z<|Ab<|Ac<|Ck (vs:=[]) z z z built149<|A8 (vs:=[(.agg #[(.slice none 0 0),(.slice none 0 0)])]) hC1 B5 ty149 z z z z (fac z<|fa0) z z fun b2 w2 hC2 hB2=>?_
 have hC3:=hC2.row0 (α:=((List Int) × (List Int)))
 have hC5:=hC3.triv (nil_val (α:=Int))
 have hC6:=hC5.triv (nil_val (α:=Int))
 have hC4:=Ci (.slice none 0 0) ([]) (.slice none 0 0) ([]) hC6
 have hC7:=hC4.row1
 have hC8:=hC7.front 1 z
 dsimp only [List.eraseIdx,List.cons_append,List.nil_append,List.append_nil] at hC8
 have hC9:Ctx [] w0 w2 (Ad (.slice (some ⟨b2,0,none⟩) 1 1) ([([],[])]:List ((List Int) × (List Int)))::[Ai b1 [u1,u2]]):=hC8.rowOwn (by simp [maxLen])
 refine Ae z z<|Ab<|A0<|Ac<|fd Bn BB z z z z<|Al hC9 1 z z BK z z<|AL Bp g2 z z<|Af z z<|Ab<|be hF fun r1 hr1 hF=>Bf (fun l w=>∃v2:Value,∃x3:(List ((List Int) × (List Int))),x3=r1∧l=[(5,v2)]∧Ctx [] w0 w [Ad v2 (x3:(List ((List Int) × (List Int))))]) ?_ ?_
 ·refine AB<|have hC15:=hC9.h1;wS (l':=[(1,u3),(5,(.slice (some ⟨b2,0,none⟩) 1 1)),(11,u2),(12,(I (List.length a1.2:Int))),(13,(I 0))]) ⟨z,z,z,z,z,Ah⟩<|Bo (fun k l w=>∃v1:Value,∃x1:(List ((List Int) × (List Int))),∃x2:Int,l=[(1,u3),(5,v1),(11,u2),(12,(I (List.length a1.2:Int))),(13,(I x2))]∧Ctx [] w0 w [Ad v1 (x1:(List ((List Int) × (List Int))))]∧M.BindingsOf_l1 a1 a2 k x1 x2=some r1) FUEL ⟨(.slice (some ⟨b2,0,none⟩) 1 1),[([],[])],0,z,hC15,hr1⟩<|?_
  clear hr1
  rintro k1 _ w3 ⟨v1,x1,x2,rfl,hC10,hL1⟩
  cases k1 with
  | zero=>rw [M.BindingsOf_l1] at hL1; cases hL1
  | succ k1 =>
   rw [M.BindingsOf_l1] at hL1
   refine Ac<|AW z z z<|Ab<|A0<|A7 z (fun hc1=>?_) (fun hc1=>?_)
   ·replace hL1:=A9 hL1 hc1
    refine A6<|Aj<|A0<|AB<|Ac<|be hL1 fun x4 hx1 hL1=>AE Bp ty93 g2 hx1 z z z fun b3 o1 h1=>AH ty93 h1 hC10.keep z z fun v3 h2=>?_
    obtain ⟨v4,rfl,h3⟩:=Du h2
    refine B0 hC10 zero93 z z fun b4 w4 hC11 hB4 hN2=>AS (cs':=[(I x4.1),v4]) (new:=[(I x4.1),v4]) hC11 0 z z (fac z<|fac (B1 h3)<|fa0) z Cd z z fun w5 hC12 hKp1=>?_
    try dsimp only [List.set] at hC12
    have hk1:=AI (Ap hB4) hN2 hKp1
    refine Ab<|AX<|Af z z<|A4 [(I x4.1),v4] hC12 0 z z z C6 Cd z z<|Af z z<|be hL1 fun x5 hr2 hL1=>Bc Tryz.call178 z z (c_M_matchAll x1 v1 ((hC12.ro 1 z).now (AP _ _)) (x4.1,x4.2) v4 (h3.now hC12.keep) a2 u3 (g3.now hC12.keep) x5 hr2)<|?_
    rintro v5 w6 ⟨hB5,F1,hv1,hn1,hb1⟩
    have hC13:=hC12.push hB5 (A:=Ad v5 x5) hv1 hn1 hb1
    exact Ae z z<|Ab<|AJ<|Aj<|AX<|Be z z z<|Af z z<|Ab<|have hC14:=hC13.h1;An (l':=[(1,u3),(5,v5),(11,u2),(12,(I (List.length a1.2:Int))),(13,(I (w64 (x2+1))))]) ⟨z,z,z,z,z,Ah⟩<|⟨k1,Az _,v5,x5,w64 (x2+1),z,hC14,hL1⟩
   replace hL1:=AA hL1 hc1
   refine Bm (A2 (A2 (AT ?_)))
   obtain rfl:=Aa hL1
   exact An (l':=[(5,v1)]) ⟨z,Ah⟩<|⟨v1,x1,z,z,hC10⟩
 rintro l2 _ w7 hs2 ⟨v2,x3,rfl,rfl,hC16⟩
 try dsimp only at hF
 refine AO hs2 ?_
 clear hs2
 refine Ac<|Af z z<|Ae z z<|Ab<|AC<|?_
 obtain rfl:=Aa hF
 exact Ay z z<|⟨_,z,B7 hC16 0 z⟩
theorem c_M_answers {w0:World} (a1:((List Int) × (List (Int × (List Int))))) (u1:Value) (g1:RO [] w0 u1 a1.1) (u2:Value) (g2:RO [] w0 u2 a1.2) (a2:(List (Int × (List Int)))) (u3:Value) (g3:RO [] w0 u3 a2) (rr:(List (List Int))) (hF:M.answers a1 a2=some rr) :
 Calls Tryz.prog 68 [(.agg #[u1,u2]),u3].toArray w0 fun e w'=>∃v,e=.returned v∧Res w0 rr v w':=by
 refine Aw Tryz.func68 z z ?_
 have hC0:=A1 w0
 unfold M.answers at hF
 refine Ac<|Bb (cs:=[u1,u2]) hC0 z z z fun b1 w1 hC1 hB1 hN1=>Ae z z<|Ab<|A0<|W_drawn 6 z hmix fun w2 hB2=>have hC2:=hC1.grow hB2;tm 2 z z z<|be hF fun x1 hr1 hF=>wAS (l':=[(0,(.agg #[u1,u2])),(1,u3),(2,(ptr b1 0)),(4,(.slice none 0 0)),(7,u3)]) ⟨z,z,z,z,z,Ah⟩<|Bq [⟨0,[],fun vs=>Bg (.agg #[u1,u2]),[]⟩,⟨1,[],fun vs=>Bg (.agg #[u1,u2]),[]⟩,⟨3,[],fun vs=>BX x1,[]⟩] [[],[],[1]] 2 z (by kernel_rfl) (by kernel_rfl) z ?_ ?_
 ·refine Aq z ?_ ?_
  ·intro w4 hB4
   refine Ax<|⟨_,z,?_⟩
   exact A4 [u1,u2] (hC2.grow hB4) 0 z z z BL BC z z<|Ab<|A3 (Am _ _) z z ⟨z,z⟩
  refine Aq z ?_ ?_
  ·intro w4 hB4
   refine Ax<|⟨_,z,?_⟩
   exact A4 [u1,u2] (hC2.grow hB4) 0 z z z BL BC z z<|Ab<|A3 (Am _ _) z z ⟨z,z⟩
  refine Aq z ?_ ?_
  ·intro w4 hB4
   refine AN z z z ?_
   rintro _ _ ⟨rfl,rfl⟩ _
   refine Ax<|⟨_,z,?_⟩
   refine Bc Tryz.call125 z z (c_M_BindingsOf (a1.1,a1.2) u1 (g1.now (hC2.keep.then hB4)) u2 (g2.now (hC2.keep.then hB4)) a2 u3 (g3.now (hC2.keep.then hB4)) x1 hr1) ?_
   rintro v1 w3 ⟨hB3,F1,hv1,hn1,hb1⟩
   exact Ab<|BW hB3 z z hv1 hn1 hb1 (Val.inh hv1)
  exact Bl
 intro w5 hB5
 refine Av z z z ?_
 rintro _ _ ⟨rfl,rfl⟩
 refine Av z z z ?_
 rintro _ _ ⟨rfl,rfl⟩
 refine Av z z z fun v1 F1 hv1=>Bv fun hn2 hb2=>?_
 have hC3:=hC2.pushL hB5 (Bs:=[Ad v1 (x1:(List ((List Int) × (List Int))))]) (Fs:=[F1]) ⟨F1,_,z,hv1,z⟩ (by simpa using hn2) (fun b h=>(hb2 b (by simpa using h)).1)
 refine be hF fun x2 hr2 hF=>oe 4 z<|Bc Tryz.call124 z z (c_M_tuplesOf (a1.1,a1.2) u1 (g1.now hC3.keep) u2 (g2.now hC3.keep) x1 v1 ((hC3.ro 0 z).now (AP _ _)) x2 hr2)<|?_
 rintro v2 w6 ⟨hB6,F2,hv2,hn3,hb3⟩
 have hC4:=hC3.push hB6 (A:=Ad v2 x2) hv2 hn3 hb3
 refine Ab<|ta 5 z z z<|dn<|Aj<|AC<|?_
 obtain rfl:=Aa hF
 exact Ay z z<|⟨_,z,B7 hC4 0 z⟩
theorem c_M_TrustedAnswers {w0:World} (a1:(List Int)) (u1:Value) (g1:RO [] w0 u1 a1) (a2:(List (Int × (List Int) × Int × Int × Int))) (u2:Value) (g2:RO [] w0 u2 a2) (a3:((List Int) × (List (Int × (List Int))))) (u3:Value) (g3:RO [] w0 u3 a3.1) (u4:Value) (g4:RO [] w0 u4 a3.2) (a4:(List ((Int × (List Int)) × (List (Int × (List Int)))))) (u5:Value) (g5:RO [] w0 u5 a4) (rr:(List (List Int))) (hF:M.TrustedAnswers a1 a2 a3 a4=some rr) :
 Calls Tryz.prog 25 [u1,u2,(.agg #[u3,u4]),u5].toArray w0 fun e w'=>∃v,e=.returned v∧Res w0 rr v w':=by
 refine Aw Tryz.func25 z z ?_
 have hC0:=A1 w0
 unfold M.TrustedAnswers at hF
 refine Ac<|Bb (cs:=[u3,u4]) hC0 z z z fun b1 w1 hC1 hB1 hN1=>Ae z z<|Ab<|A0<|Ac<|Af z z<|A4 [u3,u4] hC1 0 z z z BL BC z z<|be hF fun x1 hr1 hF=>cb Tryz.call67 z z (c_M_IsQuery a1 u1 (g1.now hC1.keep) (a3.1,a3.2) u3 (g3.now hC1.keep) u4 (g4.now hC1.keep) x1 hr1) fun w2 hB2=>have hC2:=hC1.grow hB2;Bw z z<|Ab<|A7 z (fun hc1=>?_) (fun hc1=>?_)
 ·replace hF:=A9 hF hc1
  refine Ac<|Ae z z<|Ab<|AC<|Ar<|?_
  obtain rfl:=Aa hF
  exact Ay z z<|⟨_,z,nil_res hC2⟩
 replace hF:=AA hF hc1
 refine A6<|Aj<|A0<|W_drawn 7 z hmix fun w3 hB3=>have hC3:=hC2.grow hB3;tm 1 z z z<|tm 2 z z z<|tm 3 z z z<|be hF fun x2 hr2 hF=>wAS (l':=[(0,u1),(1,u2),(2,(.agg #[u3,u4])),(3,u5),(6,(ptr b1 0)),(8,(.slice none 0 0)),(9,u1),(10,(.agg #[u3,u4])),(11,(.bool x1)),(12,(.bool (!x1))),(14,u1),(15,u2),(16,u5)]) ⟨z,z,z,z,z,z,z,z,z,z,z,z,z,Ah⟩<|Bq [⟨0,[],fun vs=>Bg (.agg #[u3,u4]),[]⟩,⟨4,[],fun vs=>BX x2,[]⟩] [[],[]] 2 z (by kernel_rfl) (by kernel_rfl) z ?_ ?_
 ·refine Aq z ?_ ?_
  ·intro w5 hB5
   refine Ax<|⟨_,z,?_⟩
   exact A4 [u3,u4] (hC3.grow hB5) 0 z z z BL BC z z<|Ab<|A3 (Am _ _) z z ⟨z,z⟩
  refine Aq z ?_ ?_
  ·intro w5 hB5
   refine Ax<|⟨_,z,?_⟩
   refine Bc Tryz.call13 z z (c_M_TrustedFacts a1 u1 (g1.now (hC3.keep.then hB5)) a2 u2 (g2.now (hC3.keep.then hB5)) a4 u5 (g5.now (hC3.keep.then hB5)) x2 hr2) ?_
   rintro v1 w4 ⟨hB4,F1,hv2,hn1,hb1⟩
   exact Ab<|BW hB4 z z hv2 hn1 hb1 (Val.inh hv2)
  exact Bl
 intro w6 hB6
 refine Av z z z ?_
 rintro _ _ ⟨rfl,rfl⟩
 refine Av z z z fun v1 F1 hv2=>Bv fun hn2 hb2=>?_
 have hC4:=hC3.pushL hB6 (Bs:=[Ad v1 (x2:(List (Int × (List Int))))]) (Fs:=[F1]) ⟨F1,_,z,hv2,z⟩ (by simpa using hn2) (fun b h=>(hb2 b (by simpa using h)).1)
 refine be hF fun x3 hr3 hF=>oe 5 z<|Bc Tryz.call68 z z (c_M_answers (a3.1,a3.2) u3 (g3.now hC4.keep) u4 (g4.now hC4.keep) x2 v1 ((hC4.ro 0 z).now (AP _ _)) x3 hr3)<|?_
 rintro v2 w7 ⟨hB7,F2,hv3,hn3,hb3⟩
 have hC5:=hC4.push hB7 (A:=Ad v2 x3) hv3 hn3 hb3
 refine Ab<|ta 6 z z z<|dn<|Aj<|AC<|?_
 obtain rfl:=Aa hF
 exact Ay z z<|⟨_,z,B7 hC5 0 z⟩
theorem c_S_l1In {w0:World} (a1:Int) (a2:Int) (a3:Int) (rr:Bool) (hF:S.l1In a1 a2 a3=some rr) :
 Calls Tryz.prog 117 [(I a1),(I a2),(I a3)].toArray w0 fun e w'=>∃v,e=.returned v∧Res w0 rr v w':=by
 refine Aw Tryz.func117 z z ?_
 have hC0:=A1 w0
 unfold S.l1In at hF
 refine Ac<|Ae z z<|Ab<|be hF fun r1 hr1 hF=>BH (fun l w=>∃x1:Bool,x1=r1∧l=[(6,(.bool x1))]∧Below w0.heap.size w0 w∧Ctx [] w0 w []) ?_ ?_
 ·refine AX<|Af z z<|Af z z<|Cu z z z<|Af z z<|Bz (fun hc1=>?_) (fun hc1=>?_)
  ·replace hr1:=A9 hr1 hc1
   refine Ak z z<|Af z z<|Ak z z<|Af z z<|Ak z z<|CQ z z z<|Ba z z z<|Ae z z<|Ab<|?_
   obtain rfl:=Aa hr1
   exact An (l':=[(6,(.bool (decide (a1 ≤ a3))))]) ⟨z,Ah⟩<|⟨(decide (a1 ≤ a3)),z,z,(Am _ _),hC0⟩
  replace hr1:=AA hr1 hc1
  refine gs z z z z<|gs z z z z<|gs z z z z<|AY z z z<|Ae z z<|Ab<|?_
  obtain rfl:=Aa hr1
  exact An (l':=[(6,(.bool false))]) ⟨z,Ah⟩<|⟨false,z,z,(Am _ _),hC0⟩
 rintro _ w1 ⟨x1,rfl,rfl,hB1,hC1⟩
 try dsimp only at hF
 refine AC ?_
 obtain rfl:=Aa hF
 exact Ay z z<|⟨_,z,AD hC1 _⟩
theorem c_S_IsSchema {w0:World} (a1:(List Int)) (u1:Value) (g1:RO [] w0 u1 a1) (rr:Bool) (hF:S.IsSchema a1=some rr) :
 Calls Tryz.prog 65 [u1].toArray w0 fun e w'=>∃v,e=.returned v∧Res w0 rr v w':=by
 refine Aw Tryz.func65 z z ?_
 have hC0:=A1 w0
 unfold S.IsSchema at hF
 refine Ac<|Ae z z<|Ab<|A0<|Ac<|Ae z z<|Ab<|be hF fun r1 hr1 hF=>Bf (fun l w=>.inl ()=r1∧l=[(0,u1)]∧Below w0.heap.size w0 w∧Ctx [] w0 w []) ?_ ?_
 ·refine AB<|wS (l':=[(0,u1),(3,(I 0))]) ⟨z,z,Ah⟩<|Bo (fun k l w=>∃x1:Int,l=[(0,u1),(3,(I x1))]∧Below w0.heap.size w0 w∧Ctx [] w0 w []∧S.IsSchema_l1 a1 k x1=some r1) FUEL ⟨0,z,(Am _ _),hC0,hr1⟩<|?_
  clear hr1
  rintro k1 _ w1 ⟨x1,rfl,hB1,hC1,hL1⟩
  cases k1 with
  | zero=>rw [S.IsSchema_l1] at hL1; cases hL1
  | succ k1 =>
   rw [S.IsSchema_l1] at hL1
   refine A0<|Ac<|Af z z<|Af z z<|AL Ag g1 z z<|AW z z z<|Ab<|A7 z (fun hc1=>?_) (fun hc1=>?_)
   ·replace hL1:=A9 hL1 hc1
    refine A6<|Aj<|A0<|AB<|Ac<|Af z z<|Af z z<|be hL1 fun x2 hx1 hL1=>AE Ag ty3 g1 hx1 z z z fun b1 o1 h1=>AH ty3 h1 hC1.keep z z fun v1 h2=>?_
    obtain rfl:=By h2
    refine be hL1 fun x3 hr2 hL1=>cb BN z z (c_S_l1In x2 1 3 x3 hr2) fun w2 hB2=>have hC2:=hC1.grow hB2;Bw z z<|Ab<|A7 z (fun hc2=>?_) (fun hc2=>?_)
    ·replace hL1:=A9 hL1 hc2
     refine Ac<|Ae z z<|Ab<|AC<|AU<|Ar<|Ar<|AU<|Ar<|Ar<|?_
     obtain rfl:=Aa hL1
     dsimp only at hF
     obtain rfl:=Aa hF
     exact Ay z z<|⟨_,z,AD hC2 _⟩
    replace hL1:=AA hL1 hc2
    exact A6<|AJ<|Aj<|AX<|Af z z<|Be z z z<|Ae z z<|Ab<|An (l':=[(0,u1),(3,(I (w64 (x1+1))))]) ⟨z,z,Ah⟩<|⟨k1,Az _,w64 (x1+1),z,((Ap hB1).then hB2).below,hC2,hL1⟩
   replace hL1:=AA hL1 hc1
   refine Bm (A2 (A2 (AT ?_)))
   obtain rfl:=Aa hL1
   exact An (l':=[(0,u1)]) ⟨z,Ah⟩<|⟨z,z,(Ap hB1).below,hC1⟩
 rintro l2 _ w3 hs2 ⟨rfl,rfl,hB3,hC3⟩
 try dsimp only at hF
 refine AO hs2 ?_
 clear hs2
 refine Ac<|Af z z<|AL Ag g1 z z<|be hF fun x4 hr3 hF=>cb BN z z (c_S_l1In (List.length a1:Int) 1 3 x4 hr3) fun w4 hB4=>have hC4:=hC3.grow hB4;Ae z z<|Ab<|AC<|?_
 obtain rfl:=Aa hF
 exact Ay z z<|⟨_,z,AD hC4 _⟩
theorem c_S_IsMethod {w0:World} (a1:(List Int)) (u1:Value) (g1:RO [] w0 u1 a1) (a2:(Int × (List Int) × Int × Int × Int)) (u2:Value) (g2:RO [] w0 u2 a2.2.1) (rr:Bool) (hF:S.IsMethod a1 a2=some rr) :
 Calls Tryz.prog 88 [u1,(.agg #[(I a2.1),u2,(I a2.2.2.1),(I a2.2.2.2.1),(I a2.2.2.2.2)])].toArray w0 fun e w'=>∃v,e=.returned v∧Res w0 rr v w':=by
 refine Aw Tryz.func88 z z ?_
 have hC0:=A1 w0
 unfold S.IsMethod at hF
 refine Ac<|Bb (cs:=[(I a2.1),u2,(I a2.2.2.1),(I a2.2.2.2.1),(I a2.2.2.2.2)]) hC0 z z z fun b1 w1 hC1 hB1 hN1=>Ae z z<|Ab<|A0<|be hF fun r1 hr1 hF=>BH (fun l w=>∃x1:Bool,x1=r1∧l=[(0,u1),(3,(ptr b1 0)),(35,(.bool x1))]∧Below w1.heap.size w1 w∧Ctx [] w0 w [Ai b1 [(I a2.1),u2,(I a2.2.2.1),(I a2.2.2.2.1),(I a2.2.2.2.2)]]) ?_ ?_
 ·refine AX<|Af z z<|be hr1 fun x2 hr2 hr1=>cb CE z z (c_S_IsSchema a1 u1 (g1.now hC1.keep) x2 hr2) fun w3 hB3=>have hC3:=hC1.grow hB3;Bw z z<|Af z z<|Bz (fun hc1=>?_) (fun hc1=>?_)
  ·replace hr1:=A9 hr1 hc1
   refine gs z z z z<|gs z z z z<|gs z z z z<|gs z z z z<|gs z z z z<|gs z z z z<|gs z z z z<|Ba z z z<|Af z z<|gs z z z z<|gs z z z z<|gs z z z z<|gs z z z z<|Ba z z z<|Af z z<|gs z z z z<|gs z z z z<|gs z z z z<|gs z z z z<|Ba z z z<|Af z z<|gs z z z z<|gs z z z z<|gs z z z z<|gs z z z z<|Ba z z z<|Ab<|?_
   obtain rfl:=Aa hr1
   exact An (l':=[(0,u1),(3,(ptr b1 0)),(35,(.bool true))]) ⟨z,z,z,Ah⟩<|⟨true,z,z,(Ap hB3).below,hC3⟩
  replace hr1:=AA hr1 hc1
  refine Ak z z<|fd AK A5 z z z z<|Ak z z<|Al hC3 0 z z AV z z<|Ak z z<|Af z z<|Ak z z<|AL Ag g1 z z<|Ak z z<|Cv z z z<|be hr1 fun x3 hr3 hr1=>Ak z z<|cb BN z z (c_S_l1In a2.1 0 (w64 ((List.length a1:Int) - 1)) x3 hr3) fun w4 hB4=>have hC4:=hC3.grow hB4;Ak z z<|Bw z z<|AY z z z<|Af z z<|Bz (fun hc2=>?_) (fun hc2=>?_)
  ·replace hr1:=A9 hr1 hc2
   refine gs z z z z<|gs z z z z<|gs z z z z<|gs z z z z<|Ba z z z<|Af z z<|gs z z z z<|gs z z z z<|gs z z z z<|gs z z z z<|Ba z z z<|Af z z<|gs z z z z<|gs z z z z<|gs z z z z<|gs z z z z<|Ba z z z<|Ab<|?_
   obtain rfl:=Aa hr1
   exact An (l':=[(0,u1),(3,(ptr b1 0)),(35,(.bool true))]) ⟨z,z,z,Ah⟩<|⟨true,z,z,((Ap hB3).then hB4).below,hC4⟩
  replace hr1:=AA hr1 hc2
  refine Ak z z<|fd AK A5 z z z z<|Ak z z<|Al hC4 0 z z AV z z<|be hr1 fun x4 hr4 hr1=>Ak z z<|cb BN z z (c_S_l1In a2.2.2.1 0 9 x4 hr4) fun w5 hB5=>have hC5:=hC4.grow hB5;Ak z z<|Bw z z<|AY z z z<|Af z z<|Bz (fun hc3=>?_) (fun hc3=>?_)
  ·replace hr1:=A9 hr1 hc3
   refine gs z z z z<|gs z z z z<|gs z z z z<|gs z z z z<|Ba z z z<|Af z z<|gs z z z z<|gs z z z z<|gs z z z z<|gs z z z z<|Ba z z z<|Ab<|?_
   obtain rfl:=Aa hr1
   exact An (l':=[(0,u1),(3,(ptr b1 0)),(35,(.bool true))]) ⟨z,z,z,Ah⟩<|⟨true,z,z,(((Ap hB3).then hB4).then hB5).below,hC5⟩
  replace hr1:=AA hr1 hc3
  refine Ak z z<|fd AK A5 z z z z<|Ak z z<|Al hC5 0 z z AV z z<|be hr1 fun x5 hr5 hr1=>Ak z z<|cb BN z z (c_S_l1In a2.2.2.2.1 0 99 x5 hr5) fun w6 hB6=>have hC6:=hC5.grow hB6;Ak z z<|Bw z z<|AY z z z<|Af z z<|Bz (fun hc4=>?_) (fun hc4=>?_)
  ·replace hr1:=A9 hr1 hc4
   refine gs z z z z<|gs z z z z<|gs z z z z<|gs z z z z<|Ba z z z<|Ab<|?_
   obtain rfl:=Aa hr1
   exact An (l':=[(0,u1),(3,(ptr b1 0)),(35,(.bool true))]) ⟨z,z,z,Ah⟩<|⟨true,z,z,((((Ap hB3).then hB4).then hB5).then hB6).below,hC6⟩
  replace hr1:=AA hr1 hc4
  refine Ak z z<|fd AK A5 z z z z<|Ak z z<|Al hC6 0 z z AV z z<|be hr1 fun x6 hr6 hr1=>Ak z z<|cb BN z z (c_S_l1In a2.2.2.2.2 1 99 x6 hr6) fun w7 hB7=>have hC7:=hC6.grow hB7;Ak z z<|Bw z z<|AY z z z<|Ab<|?_
  obtain rfl:=Aa hr1
  exact An (l':=[(0,u1),(3,(ptr b1 0)),(35,(.bool (!x6)))]) ⟨z,z,z,Ah⟩<|⟨(!x6),z,z,(((((Ap hB3).then hB4).then hB5).then hB6).then hB7).below,hC7⟩
 rintro _ w2 ⟨x1,rfl,rfl,hB2,hC2⟩
 try dsimp only at hF
 refine A7 z (fun hc5=>?_) (fun hc5=>?_)
 ·replace hF:=A9 hF hc5
  refine Ac<|Ae z z<|Ab<|AC<|Ar<|?_
  obtain rfl:=Aa hF
  exact Ay z z<|⟨_,z,AD hC2 _⟩
 replace hF:=AA hF hc5
 refine A6<|Aj<|A0<|Ac<|Ae z z<|Ab<|be hF fun r2 hr7 hF=>Bf (fun l w=>.inl ()=r2∧l=[]∧Below w2.heap.size w2 w∧Ctx [] w0 w []) ?_ ?_
 ·refine AB<|wS (l':=[(0,u1),(3,(ptr b1 0)),(5,(I 0))]) ⟨z,z,z,Ah⟩<|Bo (fun k l w=>∃x7:Int,l=[(0,u1),(3,(ptr b1 0)),(5,(I x7))]∧Below w2.heap.size w2 w∧Ctx [] w0 w [Ai b1 [(I a2.1),u2,(I a2.2.2.1),(I a2.2.2.2.1),(I a2.2.2.2.2)]]∧S.IsMethod_l1 a2 a1 k x7=some r2) FUEL ⟨0,z,(Am _ _),hC2,hr7⟩<|?_
  clear hr7
  rintro k1 _ w9 ⟨x7,rfl,hB8,hC8,hL1⟩
  cases k1 with
  | zero=>rw [S.IsMethod_l1] at hL1; cases hL1
  | succ k1 =>
   rw [S.IsMethod_l1] at hL1
   refine A0<|Ac<|Af z z<|fd AK Au z z z z<|Al hC8 0 z z At z z<|AL Ag g2 z z<|AW z z z<|Ab<|A7 z (fun hc6=>?_) (fun hc6=>?_)
   ·replace hL1:=A9 hL1 hc6
    refine A6<|Aj<|A0<|AB<|be hL1 fun r3 hr8 hL1=>BH (fun l w=>∃x8:Bool,x8=r3∧l=[(0,u1),(3,(ptr b1 0)),(5,(I x7)),(73,(.bool x8))]∧Below w9.heap.size w9 w∧Ctx [] w0 w [Ai b1 [(I a2.1),u2,(I a2.2.2.1),(I a2.2.2.2.1),(I a2.2.2.2.2)]]) ?_ ?_
    ·refine W_drawn 31 z hmix fun w11 hB10=>have hC10:=hC8.grow hB10;tf 0 AK Au z z z z z<|tm 2 z z z<|tm 5 z z z<|tf 6 AK A5 z z z z z<|be hr8 fun x9 hx1 hr8=>be hr8 fun x10 hx2 hr8=>wAS (l':=[(0,u1),(3,(ptr b1 0)),(5,(I x7)),(36,(I x7)),(37,(ptr b1 1)),(38,u2),(39,(I (List.length a2.2.1:Int))),(40,(.bool (decide (x7 < (List.length a2.2.1:Int))))),(43,(ptr b1 1)),(45,(I x7)),(48,u1),(49,(ptr b1 0))]) ⟨z,z,z,z,z,z,z,z,z,z,z,z,Ah⟩<|Bq [⟨1,[],fun vs=>Bg u2,[]⟩,⟨3,[],fun vs=>Cj [] w0 x9,[]⟩,⟨4,[],fun vs=>Bg (I x9),[]⟩,⟨7,[],fun vs=>Bg (I a2.1),[]⟩,⟨8,[],fun vs=>Cj [] w0 x10,[]⟩,⟨9,[],fun vs=>Bg (I x10),[]⟩,⟨10,[],fun vs=>Bg (I (w64 (x10 - 1))),[]⟩] [[],[1],[3],[],[7],[8],[9]] 20 z (by kernel_rfl) (by kernel_rfl) z ?_ ?_
     ·refine Aq z ?_ ?_
      ·intro w12 hB11
       refine Ax<|⟨_,z,?_⟩
       exact Al (hC10.grow hB11) 0 z z At z z<|Ab<|A3 (Am _ _) z z ⟨z,z⟩
      refine Aq z ?_ ?_
      ·intro w12 hB11
       refine AN z z z ?_
       rintro _ _ ⟨rfl,rfl⟩ _
       refine Ax<|⟨_,z,?_⟩
       exact AE Ag ty3 g2 hx1 z z z fun b2 o1 h1=>Ab<|A3 (Am _ _) z z ⟨z,_,_,z,h1⟩
      refine Aq z ?_ ?_
      ·intro w12 hB11
       refine AN z z z ?_
       rintro _ _ ⟨rfl,b2,o1,rfl,h1⟩ _
       refine Ax<|⟨_,z,?_⟩
       refine AH ty3 h1 (hC10.keep.then hB11) z z (fun v1 h2=>?_)
       obtain rfl:=By h2
       exact Ab<|A3 (Am _ _) z z ⟨z,z⟩
      refine Aq z ?_ ?_
      ·intro w12 hB11
       refine Ax<|⟨_,z,?_⟩
       exact Al (hC10.grow hB11) 0 z z AV z z<|Ab<|A3 (Am _ _) z z ⟨z,z⟩
      refine Aq z ?_ ?_
      ·intro w12 hB11
       refine AN z z z ?_
       rintro _ _ ⟨rfl,rfl⟩ _
       refine Ax<|⟨_,z,?_⟩
       exact AE Ag ty3 g1 hx2 z z z fun b3 o2 h3=>Ab<|A3 (Am _ _) z z ⟨z,_,_,z,h3⟩
      refine Aq z ?_ ?_
      ·intro w12 hB11
       refine AN z z z ?_
       rintro _ _ ⟨rfl,b3,o2,rfl,h3⟩ _
       refine Ax<|⟨_,z,?_⟩
       refine AH ty3 h3 (hC10.keep.then hB11) z z (fun v2 h4=>?_)
       obtain rfl:=By h4
       exact Ab<|A3 (Am _ _) z z ⟨z,z⟩
      refine Aq z ?_ ?_
      ·intro w12 hB11
       refine AN z z z ?_
       rintro _ _ ⟨rfl,rfl⟩ _
       refine Ax<|⟨_,z,?_⟩
       exact Cv z z z<|Ab<|A3 (Am _ _) z z ⟨z,z⟩
      exact Bl
     intro w13 hB12
     refine Av z z z ?_
     rintro _ _ ⟨rfl,rfl⟩
     refine Av z z z ?_
     rintro _ _ ⟨rfl,b2,o1,rfl,h1⟩
     refine Av z z z ?_
     rintro _ _ ⟨rfl,rfl⟩
     refine Av z z z ?_
     rintro _ _ ⟨rfl,rfl⟩
     refine Av z z z ?_
     rintro _ _ ⟨rfl,b3,o2,rfl,h3⟩
     refine Av z z z ?_
     rintro _ _ ⟨rfl,rfl⟩
     refine Av z z z ?_
     rintro _ _ ⟨rfl,rfl⟩
     refine Bv fun hn1 hb1=>have hC11:=hC10.grow hB12;be hr8 fun x11 hr9 hr8=>oe 11 z<|cb BN z z (c_S_l1In x9 0 (w64 (x10 - 1)) x11 hr9) fun w14 hB13=>have hC12:=hC11.grow hB13;Ab<|tk 12 z z (Cs z)<|Bw z z<|Ab<|tm 13 z z z<|BP (fun hc7=>?_) (fun hc7=>?_)
     ·replace hr8:=A9 hr8 hc7
      refine sk 14 z z z z z<|sk 15 z z z z z<|sk 16 z z z z z<|sk 17 z z z z z<|sk 18 z z z z z<|sk 19 z z z z z<|sk 20 z z z z z<|sk 21 z z z z z<|sk 22 z z z z z<|sk 23 z z z z z<|sk 24 z z z z z<|sk 25 z z z z z<|sk 26 z z z z z<|sk 27 z z z z z<|sk 28 z z z z z<|sk 29 z z z z z<|tp 30 z z z z<|dn<|?_
      obtain rfl:=Aa hr8
      exact An (l':=[(0,u1),(3,(ptr b1 0)),(5,(I x7)),(73,(.bool true))]) ⟨z,z,z,z,Ah⟩<|⟨true,z,z,(((Ap hB10).then hB12).then hB13).below,hC12⟩
     replace hr8:=AA hr8 hc7
     refine tn 14 z z z z z<|tg 15 z z z z (fl_gtr z z)<|Ak z z<|C1 z z z<|Ab<|tn 16 z z z z z<|BP (fun hc8=>?_) (fun hc8=>?_)
     ·replace hr8:=A9 hr8 hc8
      refine tg 17 z z z z (BG AK z z (fun w=>⟨_,Au w⟩) z)<|Ak z z<|fd AK Au z z z z<|Ab<|tn 19 z z z z z<|tg 22 z z z z (BG AK z z (fun w=>⟨_,Au w⟩) z)<|Ak z z<|fd AK Au z z z z<|Ab<|tn 24 z z z z z<|tg 25 z z z z (Dv z z)<|Ak z z<|Cv z z z<|Ab<|be hr8 fun x12 hx3 hr8=>be hr8 fun x13 hx4 hr8=>wAS (l':=[(0,u1),(3,(ptr b1 0)),(5,(I x7)),(36,(I x7)),(37,(ptr b1 1)),(38,u2),(39,(I (List.length a2.2.1:Int))),(40,(.bool (decide (x7 < (List.length a2.2.1:Int))))),(43,(ptr b1 1)),(44,u2),(45,(I x7)),(46,(ptr b2 o1)),(47,(I x9)),(48,u1),(49,(ptr b1 0)),(50,(I a2.1)),(51,(ptr b3 o2)),(52,(I x10)),(53,(I (w64 (x10 - 1)))),(54,(.bool x11)),(55,(.bool (!x11))),(56,(.bool false)),(57,(I x7)),(58,(.bool (decide (0 < x7)))),(59,(.bool true)),(60,(ptr b1 1)),(62,(I x7)),(65,(ptr b1 1)),(67,(I x7)),(68,(I (w64 (x7 - 1))))]) ⟨z,z,z,z,z,z,z,z,z,z,z,z,z,z,z,z,z,z,z,z,z,z,z,z,z,z,z,z,z,z,Ah⟩<|Bq [⟨18,[],fun vs=>Bg u2,[]⟩,⟨20,[],fun vs=>Cj [] w0 x12,[]⟩,⟨21,[],fun vs=>Bg (I x12),[]⟩,⟨23,[],fun vs=>Bg u2,[]⟩,⟨26,[],fun vs=>Cj [] w0 x13,[]⟩,⟨27,[],fun vs=>Bg (I x13),[]⟩] [[],[18],[20],[],[23],[26]] 3 z (by kernel_rfl) (by kernel_rfl) z ?_ ?_
      ·refine Aq z ?_ ?_
       ·intro w15 hB14
        refine Ax<|⟨_,z,?_⟩
        exact Ak z z<|Al (hC12.grow hB14) 0 z z At z z<|Ab<|A3 (Am _ _) z z ⟨z,z⟩
       refine Aq z ?_ ?_
       ·intro w15 hB14
        refine AN z z z ?_
        rintro _ _ ⟨rfl,rfl⟩ _
        refine Ax<|⟨_,z,?_⟩
        exact Ak z z<|AE Ag ty3 g2 hx3 z z z fun b4 o3 h5=>Ab<|A3 (Am _ _) z z ⟨z,_,_,z,h5⟩
       refine Aq z ?_ ?_
       ·intro w15 hB14
        refine AN z z z ?_
        rintro _ _ ⟨rfl,b4,o3,rfl,h5⟩ _
        refine Ax<|⟨_,z,?_⟩
        refine Ak z z<|AH ty3 h5 (hC12.keep.then hB14) z z fun v3 h6=>?_
        obtain rfl:=By h6
        exact Ab<|A3 (Am _ _) z z ⟨z,z⟩
       refine Aq z ?_ ?_
       ·intro w15 hB14
        refine Ax<|⟨_,z,?_⟩
        exact Ak z z<|Al (hC12.grow hB14) 0 z z At z z<|Ab<|A3 (Am _ _) z z ⟨z,z⟩
       refine Aq z ?_ ?_
       ·intro w15 hB14
        refine AN z z z ?_
        rintro _ _ ⟨rfl,rfl⟩ _
        refine Ax<|⟨_,z,?_⟩
        exact Ak z z<|AE Ag ty3 g2 hx4 z z z fun b5 o4 h7=>Ab<|A3 (Am _ _) z z ⟨z,_,_,z,h7⟩
       refine Aq z ?_ ?_
       ·intro w15 hB14
        refine AN z z z ?_
        rintro _ _ ⟨rfl,b5,o4,rfl,h7⟩ _
        refine Ax<|⟨_,z,?_⟩
        refine Ak z z<|AH ty3 h7 (hC12.keep.then hB14) z z fun v4 h8=>?_
        obtain rfl:=By h8
        exact Ab<|A3 (Am _ _) z z ⟨z,z⟩
       exact Bl
      intro w16 hB15
      refine Av z z z ?_
      rintro _ _ ⟨rfl,rfl⟩
      refine Av z z z ?_
      rintro _ _ ⟨rfl,b4,o3,rfl,h5⟩
      refine Av z z z ?_
      rintro _ _ ⟨rfl,rfl⟩
      refine Av z z z ?_
      rintro _ _ ⟨rfl,rfl⟩
      refine Av z z z ?_
      rintro _ _ ⟨rfl,b5,o4,rfl,h7⟩
      refine Av z z z ?_
      rintro _ _ ⟨rfl,rfl⟩
      refine Bv fun hn2 hb2=>have hC13:=hC12.grow hB15;tg 28 z z z z (fl_leq z z)<|Ak z z<|CQ z z z<|Ab<|tg 29 z z z z (Ds z z)<|Ak z z<|Ba z z z<|Ab<|tq 30 z z z z<|dn<|?_
      obtain rfl:=Aa hr8
      exact An (l':=[(0,u1),(3,(ptr b1 0)),(5,(I x7)),(73,(.bool (decide (x12 ≤ x13))))]) ⟨z,z,z,z,Ah⟩<|⟨(decide (x12 ≤ x13)),z,z,((((Ap hB10).then hB12).then hB13).then hB15).below,hC13⟩
     replace hr8:=AA hr8 hc8
     refine sk 17 z z z z z<|sk 18 z z z z z<|sk 19 z z z z z<|sk 20 z z z z z<|sk 21 z z z z z<|sk 22 z z z z z<|sk 23 z z z z z<|sk 24 z z z z z<|sk 25 z z z z z<|sk 26 z z z z z<|sk 27 z z z z z<|sk 28 z z z z z<|tg 29 z z z z (Dt z z)<|Ak z z<|AY z z z<|Ab<|tq 30 z z z z<|dn<|?_
     obtain rfl:=Aa hr8
     exact An (l':=[(0,u1),(3,(ptr b1 0)),(5,(I x7)),(73,(.bool false))]) ⟨z,z,z,z,Ah⟩<|⟨false,z,z,(((Ap hB10).then hB12).then hB13).below,hC12⟩
    rintro _ w10 ⟨x8,rfl,rfl,hB9,hC9⟩
    try dsimp only at hL1
    refine A7 z (fun hc9=>?_) (fun hc9=>?_)
    ·replace hL1:=A9 hL1 hc9
     refine Ac<|Ae z z<|Ab<|AC<|AU<|Ar<|Ar<|AU<|Ar<|Ar<|?_
     obtain rfl:=Aa hL1
     dsimp only at hF
     obtain rfl:=Aa hF
     exact Ay z z<|⟨_,z,AD hC9 _⟩
    replace hL1:=AA hL1 hc9
    exact A6<|AJ<|Aj<|AX<|Af z z<|Be z z z<|Ae z z<|Ab<|An (l':=[(0,u1),(3,(ptr b1 0)),(5,(I (w64 (x7+1))))]) ⟨z,z,z,Ah⟩<|⟨k1,Az _,w64 (x7+1),z,((Ap hB8).then hB9).below,hC9,hL1⟩
   replace hL1:=AA hL1 hc6
   refine Bm (A2 (A2 (AT ?_)))
   obtain rfl:=Aa hL1
   have hC14:=hC8.h0
   exact An (l':=[]) Ah<|⟨z,z,(Ap hB8).below,hC14⟩
 rintro l4 _ w17 hs4 ⟨rfl,rfl,hB16,hC15⟩
 try dsimp only at hF
 refine AO hs4 ?_
 clear hs4
 refine Ac<|Ae z z<|Ab<|AC<|?_
 obtain rfl:=Aa hF
 exact Ay z z<|⟨_,z,AD hC15 _⟩
theorem c_S_AreMethods {w0:World} (a1:(List Int)) (u1:Value) (g1:RO [] w0 u1 a1) (a2:(List (Int × (List Int) × Int × Int × Int))) (u2:Value) (g2:RO [] w0 u2 a2) (rr:Bool) (hF:S.AreMethods a1 a2=some rr) :
 Calls Tryz.prog 47 [u1,u2].toArray w0 fun e w'=>∃v,e=.returned v∧Res w0 rr v w':=by
 refine Aw Tryz.func47 z z ?_
 have hC0:=A1 w0
 unfold S.AreMethods at hF
 refine Ac<|Ae z z<|Ab<|A0<|Ac<|Ae z z<|Ab<|be hF fun r1 hr1 hF=>Bf (fun l w=>.inl ()=r1∧l=[(0,u1),(1,u2)]∧Below w0.heap.size w0 w∧Ctx [] w0 w []) ?_ ?_
 ·refine AB<|wS (l':=[(0,u1),(1,u2),(5,(I 0))]) ⟨z,z,z,Ah⟩<|Bo (fun k l w=>∃x1:Int,l=[(0,u1),(1,u2),(5,(I x1))]∧Below w0.heap.size w0 w∧Ctx [] w0 w []∧S.AreMethods_l1 a2 a1 k x1=some r1) FUEL ⟨0,z,(Am _ _),hC0,hr1⟩<|?_
  clear hr1
  rintro k1 _ w1 ⟨x1,rfl,hB1,hC1,hL1⟩
  cases k1 with
  | zero=>rw [S.AreMethods_l1] at hL1; cases hL1
  | succ k1 =>
   rw [S.AreMethods_l1] at hL1
   refine A0<|Ac<|Af z z<|Af z z<|AL Bi g2 z z<|AW z z z<|Ab<|A7 z (fun hc1=>?_) (fun hc1=>?_)
   ·replace hL1:=A9 hL1 hc1
    refine A6<|Aj<|A0<|AB<|Ac<|Af z z<|Af z z<|Af z z<|be hL1 fun x2 hx1 hL1=>AE Bi ty110 g2 hx1 z z z fun b1 o1 h1=>AH ty110 h1 hC1.keep z z fun v1 h2=>?_
    obtain ⟨v2,rfl,h3⟩:=CX h2
    refine be hL1 fun x3 hr2 hL1=>cb Tryz.call88 z z (c_S_IsMethod a1 u1 (g1.now hC1.keep) x2 v2 (h3.now hC1.keep) x3 hr2) fun w2 hB2=>have hC2:=hC1.grow hB2;Bw z z<|Ab<|A7 z (fun hc2=>?_) (fun hc2=>?_)
    ·replace hL1:=A9 hL1 hc2
     refine Ac<|Ae z z<|Ab<|AC<|AU<|Ar<|Ar<|AU<|Ar<|Ar<|?_
     obtain rfl:=Aa hL1
     dsimp only at hF
     obtain rfl:=Aa hF
     exact Ay z z<|⟨_,z,AD hC2 _⟩
    replace hL1:=AA hL1 hc2
    exact A6<|AJ<|Aj<|AX<|Af z z<|Be z z z<|Ae z z<|Ab<|An (l':=[(0,u1),(1,u2),(5,(I (w64 (x1+1))))]) ⟨z,z,z,Ah⟩<|⟨k1,Az _,w64 (x1+1),z,((Ap hB1).then hB2).below,hC2,hL1⟩
   replace hL1:=AA hL1 hc1
   refine Bm (A2 (A2 (AT ?_)))
   obtain rfl:=Aa hL1
   exact An (l':=[(0,u1),(1,u2)]) ⟨z,z,Ah⟩<|⟨z,z,(Ap hB1).below,hC1⟩
 rintro l2 _ w3 hs2 ⟨rfl,rfl,hB3,hC3⟩
 try dsimp only at hF
 refine AO hs2 ?_
 clear hs2
 refine be hF fun r2 hr3 hF=>BH (fun l w=>∃x4:Bool,x4=r2∧l=[(4,(.bool x4))]∧Below w3.heap.size w3 w∧Ctx [] w0 w []) ?_ ?_
 ·refine AX<|Af z z<|be hr3 fun x5 hr4 hr3=>cb CE z z (c_S_IsSchema a1 u1 (g1.now hC3.keep) x5 hr4) fun w5 hB5=>have hC5:=hC3.grow hB5;Af z z<|Bz (fun hc3=>?_) (fun hc3=>?_)
  ·replace hr3:=A9 hr3 hc3
   refine Ak z z<|Af z z<|Ak z z<|AL Bi g2 z z<|Ak z z<|CQ z z z<|Ba z z z<|Ae z z<|Ab<|?_
   obtain rfl:=Aa hr3
   exact An (l':=[(4,(.bool (decide ((List.length a2:Int) ≤ 5))))]) ⟨z,Ah⟩<|⟨(decide ((List.length a2:Int) ≤ 5)),z,z,(Ap hB5).below,hC5⟩
  replace hr3:=AA hr3 hc3
  refine gs z z z z<|gs z z z z<|gs z z z z<|AY z z z<|Ae z z<|Ab<|?_
  obtain rfl:=Aa hr3
  exact An (l':=[(4,(.bool false))]) ⟨z,Ah⟩<|⟨false,z,z,(Ap hB5).below,hC5⟩
 rintro _ w4 ⟨x4,rfl,rfl,hB4,hC4⟩
 try dsimp only at hF
 refine AC ?_
 obtain rfl:=Aa hF
 exact Ay z z<|⟨_,z,AD hC4 _⟩
theorem c_S_IsAccess {w0:World} (a1:(List Int)) (u1:Value) (g1:RO [] w0 u1 a1) (a2:(List (Int × (List Int) × Int × Int × Int))) (u2:Value) (g2:RO [] w0 u2 a2) (a3:(Int × (List Int))) (u3:Value) (g3:RO [] w0 u3 a3.2) (rr:Bool) (hF:S.IsAccess a1 a2 a3=some rr) :
 Calls Tryz.prog 201 [u1,u2,(.agg #[(I a3.1),u3])].toArray w0 fun e w'=>∃v,e=.returned v∧Res w0 rr v w':=by
 refine Aw Tryz.func201 z z ?_
 have hC0:=A1 w0
 unfold S.IsAccess at hF
 refine Ac<|Bb (cs:=[(I a3.1),u3]) hC0 z z z fun b1 w1 hC1 hB1 hN1=>Ae z z<|Ab<|A0<|be hF fun r1 hr1 hF=>BH (fun l w=>∃x1:Bool,x1=r1∧l=[(5,(ptr b1 0)),(33,(.bool x1))]∧Below w1.heap.size w1 w∧Ctx [] w0 w [Ai b1 [(I a3.1),u3]]) ?_ ?_
 ·refine W_drawn 26 z hmix fun w3 hB3=>have hC3:=hC1.grow hB3;tm 0 z z z<|tm 1 z z z<|be hr1 fun x2 hr2 hr1=>oe 2 z<|cb Tryz.call47 z z (c_S_AreMethods a1 u1 (g1.now hC3.keep) a2 u2 (g2.now hC3.keep) x2 hr2) fun w4 hB4=>have hC4:=hC3.grow hB4;Ab<|tk 3 z z (Cs z)<|Bw z z<|Ab<|tm 4 z z z<|BP (fun hc1=>?_) (fun hc1=>?_)
  ·replace hr1:=A9 hr1 hc1
   refine sk 5 z z z z z<|sk 6 z z z z z<|sk 7 z z z z z<|sk 8 z z z z z<|sk 9 z z z z z<|sk 10 z z z z z<|sk 11 z z z z z<|tp 12 z z z z<|tm 13 z z z<|sk 14 z z z z z<|sk 15 z z z z z<|sk 16 z z z z z<|sk 17 z z z z z<|sk 18 z z z z z<|sk 19 z z z z z<|sk 20 z z z z z<|sk 21 z z z z z<|sk 22 z z z z z<|sk 23 z z z z z<|sk 24 z z z z z<|tp 25 z z z z<|dn<|?_
   obtain rfl:=Aa hr1
   exact An (l':=[(5,(ptr b1 0)),(33,(.bool true))]) ⟨z,z,Ah⟩<|⟨true,z,z,((Ap hB3).then hB4).below,hC4⟩
  replace hr1:=AA hr1 hc1
  refine tg 5 z z z z (BG Bd z z (fun w=>⟨_,A5 w⟩) z)<|Ak z z<|fd Bd A5 z z z z<|Ab<|tn 7 z z z z z<|tg 8 z z z z (fl_len Bi g2 z)<|Ak z z<|AL Bi g2 z z<|Ab<|tg 9 z z z z (Dv z z)<|Ak z z<|Cv z z z<|Ab<|oe 6 z<|Ak z z<|Al hC4 0 z z AV z z<|Ab<|be hr1 fun x3 hr3 hr1=>oe 10 z<|Ak z z<|cb BN z z (c_S_l1In a3.1 0 (w64 ((List.length a2:Int) - 1)) x3 hr3) fun w5 hB5=>have hC5:=hC4.grow hB5;Ab<|tg 11 z z z z (Cs z)<|Ak z z<|Bw z z<|Ab<|tq 12 z z z z<|tm 13 z z z<|BP (fun hc2=>?_) (fun hc2=>?_)
  ·replace hr1:=A9 hr1 hc2
   refine sk 14 z z z z z<|sk 15 z z z z z<|sk 16 z z z z z<|sk 17 z z z z z<|sk 18 z z z z z<|sk 19 z z z z z<|sk 20 z z z z z<|sk 21 z z z z z<|sk 22 z z z z z<|sk 23 z z z z z<|sk 24 z z z z z<|tp 25 z z z z<|dn<|?_
   obtain rfl:=Aa hr1
   exact An (l':=[(5,(ptr b1 0)),(33,(.bool true))]) ⟨z,z,Ah⟩<|⟨true,z,z,(((Ap hB3).then hB4).then hB5).below,hC5⟩
  replace hr1:=AA hr1 hc2
  refine tg 14 z z z z (BG Bd z z (fun w=>⟨_,Au w⟩) z)<|Ak z z<|fd Bd Au z z z z<|Ab<|tn 17 z z z z z<|tg 18 z z z z (BG Bd z z (fun w=>⟨_,A5 w⟩) z)<|Ak z z<|fd Bd A5 z z z z<|Ab<|be hr1 fun x4 hx1 hr1=>wAS (l':=[(0,u1),(1,u2),(2,(.agg #[(I a3.1),u3])),(5,(ptr b1 0)),(6,(.bool false)),(8,u1),(9,u2),(10,(.bool x2)),(11,(.bool (!x2))),(12,(.bool false)),(13,(ptr b1 0)),(14,(I a3.1)),(15,u2),(16,(I (List.length a2:Int))),(17,(I (w64 ((List.length a2:Int) - 1)))),(18,(.bool x3)),(19,(.bool (!x3))),(20,(.bool (!x3))),(21,(.bool false)),(22,(ptr b1 1)),(25,u2),(26,(ptr b1 0))]) ⟨z,z,z,z,z,z,z,z,z,z,z,z,z,z,z,z,z,z,z,z,z,z,Ah⟩<|Bq [⟨15,[],fun vs=>Bg u3,[]⟩,⟨16,[],fun vs=>Bg (I (List.length a3.2:Int)),[]⟩,⟨19,[],fun vs=>Bg (I a3.1),[]⟩,⟨20,[],fun vs=>Cj [] w0 x4,[]⟩,⟨21,[],fun vs=>Cj [] w0 x4.2.1,[]⟩,⟨22,[],fun vs=>Cc [] w0 x4.2.1,[]⟩,⟨23,[],fun vs=>Bg (I (List.length x4.2.1:Int)),[]⟩] [[],[15],[],[19],[20],[21],[22]] 2 z (by kernel_rfl) (by kernel_rfl) z ?_ ?_
  ·refine Aq z ?_ ?_
   ·intro w6 hB6
    refine Ax<|⟨_,z,?_⟩
    exact Ak z z<|Al (hC5.grow hB6) 0 z z At z z<|Ab<|A3 (Am _ _) z z ⟨z,z⟩
   refine Aq z ?_ ?_
   ·intro w6 hB6
    refine AN z z z ?_
    rintro _ _ ⟨rfl,rfl⟩ _
    refine Ax<|⟨_,z,?_⟩
    exact Ak z z<|AL Ag g3 z z<|Ab<|A3 (Am _ _) z z ⟨z,z⟩
   refine Aq z ?_ ?_
   ·intro w6 hB6
    refine Ax<|⟨_,z,?_⟩
    exact Ak z z<|Al (hC5.grow hB6) 0 z z AV z z<|Ab<|A3 (Am _ _) z z ⟨z,z⟩
   refine Aq z ?_ ?_
   ·intro w6 hB6
    refine AN z z z ?_
    rintro _ _ ⟨rfl,rfl⟩ _
    refine Ax<|⟨_,z,?_⟩
    exact Ak z z<|AE Bi ty110 g2 hx1 z z z fun b2 o1 h1=>Ab<|A3 (Am _ _) z z ⟨z,_,_,z,h1⟩
   refine Aq z ?_ ?_
   ·intro w6 hB6
    refine AN z z z ?_
    rintro _ _ ⟨rfl,b2,o1,rfl,h1⟩ _
    refine Ax<|⟨_,z,?_⟩
    exact Ak z z<|fd AK Au z z z z<|Ab<|A3 (Am _ _) z z ⟨z,_,_,z,h1.snd.fst⟩
   refine Aq z ?_ ?_
   ·intro w6 hB6
    refine AN z z z ?_
    rintro _ _ ⟨rfl,b3,o2,rfl,h2⟩ _
    refine Ax<|⟨_,z,?_⟩
    exact Ak z z<|AH ty24 h2 (hC5.keep.then hB6) z z fun v1 h3=>Ab<|A3 (Am _ _) z z ⟨z,h3⟩
   refine Aq z ?_ ?_
   ·intro w6 hB6
    refine AN z z z ?_
    rintro v1 _ ⟨rfl,h3⟩ _
    refine Ax<|⟨_,z,?_⟩
    exact Ak z z<|AL Ag h3 z z<|Ab<|A3 (Am _ _) z z ⟨z,z⟩
   exact Bl
  intro w7 hB7
  refine Av z z z ?_
  rintro _ _ ⟨rfl,rfl⟩
  refine Av z z z ?_
  rintro _ _ ⟨rfl,rfl⟩
  refine Av z z z ?_
  rintro _ _ ⟨rfl,rfl⟩
  refine Av z z z ?_
  rintro _ _ ⟨rfl,b2,o1,rfl,h1⟩
  refine Av z z z ?_
  rintro _ _ ⟨rfl,b3,o2,rfl,h2⟩
  refine Av z z z ?_
  rintro v1 _ ⟨rfl,h3⟩
  refine Av z z z ?_
  rintro _ _ ⟨rfl,rfl⟩
  refine Bv fun hn1 hb1=>have hC6:=hC5.grow hB7;tg 24 z z z z (CZ z z)<|Ak z z<|BI z z z<|Ab<|tq 25 z z z z<|dn<|?_
  obtain rfl:=Aa hr1
  exact An (l':=[(5,(ptr b1 0)),(33,(.bool (!decide ((List.length a3.2:Int)=(List.length x4.2.1:Int)))))]) ⟨z,z,Ah⟩<|⟨(!decide ((List.length a3.2:Int)=(List.length x4.2.1:Int))),z,z,((((Ap hB3).then hB4).then hB5).then hB7).below,hC6⟩
 rintro _ w2 ⟨x1,rfl,rfl,hB2,hC2⟩
 try dsimp only at hF
 refine A7 z (fun hc3=>?_) (fun hc3=>?_)
 ·replace hF:=A9 hF hc3
  refine Ac<|Ae z z<|Ab<|AC<|Ar<|?_
  obtain rfl:=Aa hF
  exact Ay z z<|⟨_,z,AD hC2 _⟩
 replace hF:=AA hF hc3
 refine A6<|Aj<|A0<|Ac<|Ae z z<|Ab<|be hF fun r2 hr4 hF=>Bf (fun l w=>.inl ()=r2∧l=[]∧Below w2.heap.size w2 w∧Ctx [] w0 w []) ?_ ?_
 ·refine AB<|wS (l':=[(5,(ptr b1 0)),(7,(I 0))]) ⟨z,z,Ah⟩<|Bo (fun k l w=>∃x5:Int,l=[(5,(ptr b1 0)),(7,(I x5))]∧Below w2.heap.size w2 w∧Ctx [] w0 w [Ai b1 [(I a3.1),u3]]∧S.IsAccess_l1 a3 k x5=some r2) FUEL ⟨0,z,(Am _ _),hC2,hr4⟩<|?_
  clear hr4
  rintro k1 _ w9 ⟨x5,rfl,hB8,hC7,hL1⟩
  cases k1 with
  | zero=>rw [S.IsAccess_l1] at hL1; cases hL1
  | succ k1 =>
   rw [S.IsAccess_l1] at hL1
   refine A0<|Ac<|Af z z<|fd Bd Au z z z z<|Al hC7 0 z z At z z<|AL Ag g3 z z<|AW z z z<|Ab<|A7 z (fun hc4=>?_) (fun hc4=>?_)
   ·replace hL1:=A9 hL1 hc4
    refine A6<|Aj<|A0<|AB<|Ac<|fd Bd Au z z z z<|Al hC7 0 z z At z z<|Af z z<|be hL1 fun x6 hx2 hL1=>AE Ag ty3 g3 hx2 z z z fun b4 o3 h4=>AH ty3 h4 hC7.keep z z fun v2 h5=>?_
    obtain rfl:=By h5
    refine be hL1 fun x7 hr5 hL1=>cb BN z z (c_S_l1In x6 0 9 x7 hr5) fun w10 hB9=>have hC8:=hC7.grow hB9;Bw z z<|Ab<|A7 z (fun hc5=>?_) (fun hc5=>?_)
    ·replace hL1:=A9 hL1 hc5
     refine Ac<|Ae z z<|Ab<|AC<|AU<|Ar<|Ar<|AU<|Ar<|Ar<|?_
     obtain rfl:=Aa hL1
     dsimp only at hF
     obtain rfl:=Aa hF
     exact Ay z z<|⟨_,z,AD hC8 _⟩
    replace hL1:=AA hL1 hc5
    exact A6<|AJ<|Aj<|AX<|Af z z<|Be z z z<|Ae z z<|Ab<|An (l':=[(5,(ptr b1 0)),(7,(I (w64 (x5+1))))]) ⟨z,z,Ah⟩<|⟨k1,Az _,w64 (x5+1),z,((Ap hB8).then hB9).below,hC8,hL1⟩
   replace hL1:=AA hL1 hc4
   refine Bm (A2 (A2 (AT ?_)))
   obtain rfl:=Aa hL1
   have hC9:=hC7.h0
   exact An (l':=[]) Ah<|⟨z,z,(Ap hB8).below,hC9⟩
 rintro l3 _ w11 hs3 ⟨rfl,rfl,hB10,hC10⟩
 try dsimp only at hF
 refine AO hs3 ?_
 clear hs3
 refine Ac<|Ae z z<|Ab<|AC<|?_
 obtain rfl:=Aa hF
 exact Ay z z<|⟨_,z,AD hC10 _⟩
theorem c_S_CompareFacts {w0:World} (a1:(Int × (List Int))) (u1:Value) (g1:RO [] w0 u1 a1.2) (a2:(Int × (List Int))) (u2:Value) (g2:RO [] w0 u2 a2.2) (rr:Int) (hF:S.CompareFacts a1 a2=some rr) :
 Calls Tryz.prog 53 [(.agg #[(I a1.1),u1]),(.agg #[(I a2.1),u2])].toArray w0 fun e w'=>∃v,e=.returned v∧Res w0 rr v w':=by
 refine Aw Tryz.func53 z z ?_
 have hC0:=A1 w0
 unfold S.CompareFacts at hF
 refine Ac<|Bb (cs:=[(I a1.1),u1]) hC0 z z z fun b1 w1 hC1 hB1 hN1=>Bb (cs:=[(I a2.1),u2]) hC1 z z z fun b2 w2 hC2 hB2 hN2=>Ae z z<|Ab<|A0<|Ac<|fd AF A5 z z z z<|Al hC2 1 z z AV z z<|fd AF A5 z z z z<|Al hC2 0 z z AV z z<|BI z z z<|Ab<|A7 z (fun hc1=>?_) (fun hc1=>?_)
 ·replace hF:=A9 hF hc1
  refine A0<|Ac<|fd AF A5 z z z z<|Al hC2 1 z z AV z z<|fd AF A5 z z z z<|Al hC2 0 z z AV z z<|AW z z z<|Ab<|A7 z (fun hc2=>?_) (fun hc2=>?_)
  ·replace hF:=A9 hF hc2
   refine Ac<|Ae z z<|Ab<|AC<|Ar<|Ar<|?_
   obtain rfl:=Aa hF
   exact Ay z z<|⟨_,z,Bk hC2 _⟩
  replace hF:=AA hF hc2
  refine A6<|Aj<|Ac<|Ae z z<|Ab<|AC<|Ar<|?_
  obtain rfl:=Aa hF
  exact Ay z z<|⟨_,z,Bk hC2 _⟩
 replace hF:=AA hF hc1
 refine A6<|Aj<|A0<|Ac<|Ae z z<|Ab<|be hF fun r1 hr1 hF=>Bf (fun l w=>.inl ()=r1∧l=[(2,(ptr b1 0)),(3,(ptr b2 0))]∧Below w2.heap.size w2 w∧Ctx [] w0 w [Ai b2 [(I a2.1),u2],Ai b1 [(I a1.1),u1]]) ?_ ?_
 ·refine AB<|wS (l':=[(2,(ptr b1 0)),(3,(ptr b2 0)),(5,(I 0))]) ⟨z,z,z,Ah⟩<|Bo (fun k l w=>∃x1:Int,l=[(2,(ptr b1 0)),(3,(ptr b2 0)),(5,(I x1))]∧Below w2.heap.size w2 w∧Ctx [] w0 w [Ai b2 [(I a2.1),u2],Ai b1 [(I a1.1),u1]]∧S.CompareFacts_l1 a1 a2 k x1=some r1) FUEL ⟨0,z,(Am _ _),hC2,hr1⟩<|?_
  clear hr1
  rintro k1 _ w3 ⟨x1,rfl,hB3,hC3,hL1⟩
  cases k1 with
  | zero=>rw [S.CompareFacts_l1] at hL1; cases hL1
  | succ k1 =>
   rw [S.CompareFacts_l1] at hL1
   refine A0<|be hL1 fun r2 hr2 hL1=>BH (fun l w=>∃x2:Bool,x2=r2∧l=[(2,(ptr b1 0)),(3,(ptr b2 0)),(5,(I x1)),(27,(.bool x2))]∧Below w3.heap.size w3 w∧Ctx [] w0 w [Ai b2 [(I a2.1),u2],Ai b1 [(I a1.1),u1]]) ?_ ?_
   ·refine AX<|Af z z<|fd AF Au z z z z<|Al hC3 1 z z At z z<|AL Ag g1 z z<|AW z z z<|Af z z<|Bz (fun hc3=>?_) (fun hc3=>?_)
    ·replace hr2:=A9 hr2 hc3
     refine Ak z z<|Af z z<|Ak z z<|fd AF Au z z z z<|Ak z z<|Al hC3 0 z z At z z<|Ak z z<|AL Ag g2 z z<|Ak z z<|AW z z z<|Ba z z z<|Ab<|?_
     obtain rfl:=Aa hr2
     exact An (l':=[(2,(ptr b1 0)),(3,(ptr b2 0)),(5,(I x1)),(27,(.bool (decide (x1 < (List.length a2.2:Int)))))]) ⟨z,z,z,z,Ah⟩<|⟨(decide (x1 < (List.length a2.2:Int))),z,z,(Am _ _),hC3⟩
    replace hr2:=AA hr2 hc3
    refine gs z z z z<|gs z z z z<|gs z z z z<|gs z z z z<|gs z z z z<|AY z z z<|Ab<|?_
    obtain rfl:=Aa hr2
    exact An (l':=[(2,(ptr b1 0)),(3,(ptr b2 0)),(5,(I x1)),(27,(.bool false))]) ⟨z,z,z,z,Ah⟩<|⟨false,z,z,(Am _ _),hC3⟩
   rintro _ w4 ⟨x2,rfl,rfl,hB4,hC4⟩
   try dsimp only at hL1
   refine A7 z (fun hc4=>?_) (fun hc4=>?_)
   ·replace hL1:=A9 hL1 hc4
    refine A6<|Aj<|A0<|AB<|A0<|A0<|W_drawn 11 z hmix fun w5 hB5=>have hC5:=hC4.grow hB5;tf 0 AF Au z z z z z<|tm 2 z z z<|tf 5 AF Au z z z z z<|tm 7 z z z<|be hL1 fun x3 hx1 hL1=>be hL1 fun x4 hx2 hL1=>wAS (l':=[(2,(ptr b1 0)),(3,(ptr b2 0)),(5,(I x1)),(27,(.bool x2)),(30,(ptr b1 1)),(32,(I x1)),(35,(ptr b2 1)),(37,(I x1))]) ⟨z,z,z,z,z,z,z,z,Ah⟩<|Bq [⟨1,[],fun vs=>Bg u1,[]⟩,⟨3,[],fun vs=>Cj [] w0 x3,[]⟩,⟨4,[],fun vs=>Bg (I x3),[]⟩,⟨6,[],fun vs=>Bg u2,[]⟩,⟨8,[],fun vs=>Cj [] w0 x4,[]⟩,⟨9,[],fun vs=>Bg (I x4),[]⟩] [[],[1],[3],[],[6],[8]] 1 z (by kernel_rfl) (by kernel_rfl) z ?_ ?_
    ·refine Aq z ?_ ?_
     ·intro w6 hB6
      refine Ax<|⟨_,z,?_⟩
      exact Al (hC5.grow hB6) 1 z z At z z<|Ab<|A3 (Am _ _) z z ⟨z,z⟩
     refine Aq z ?_ ?_
     ·intro w6 hB6
      refine AN z z z ?_
      rintro _ _ ⟨rfl,rfl⟩ _
      refine Ax<|⟨_,z,?_⟩
      exact AE Ag ty3 g1 hx1 z z z fun b3 o1 h1=>Ab<|A3 (Am _ _) z z ⟨z,_,_,z,h1⟩
     refine Aq z ?_ ?_
     ·intro w6 hB6
      refine AN z z z ?_
      rintro _ _ ⟨rfl,b3,o1,rfl,h1⟩ _
      refine Ax<|⟨_,z,?_⟩
      refine AH ty3 h1 (hC5.keep.then hB6) z z (fun v1 h2=>?_)
      obtain rfl:=By h2
      exact Ab<|A3 (Am _ _) z z ⟨z,z⟩
     refine Aq z ?_ ?_
     ·intro w6 hB6
      refine Ax<|⟨_,z,?_⟩
      exact Al (hC5.grow hB6) 0 z z At z z<|Ab<|A3 (Am _ _) z z ⟨z,z⟩
     refine Aq z ?_ ?_
     ·intro w6 hB6
      refine AN z z z ?_
      rintro _ _ ⟨rfl,rfl⟩ _
      refine Ax<|⟨_,z,?_⟩
      exact AE Ag ty3 g2 hx2 z z z fun b4 o2 h3=>Ab<|A3 (Am _ _) z z ⟨z,_,_,z,h3⟩
     refine Aq z ?_ ?_
     ·intro w6 hB6
      refine AN z z z ?_
      rintro _ _ ⟨rfl,b4,o2,rfl,h3⟩ _
      refine Ax<|⟨_,z,?_⟩
      refine AH ty3 h3 (hC5.keep.then hB6) z z (fun v2 h4=>?_)
      obtain rfl:=By h4
      exact Ab<|A3 (Am _ _) z z ⟨z,z⟩
     exact Bl
    intro w7 hB7
    refine Av z z z ?_
    rintro _ _ ⟨rfl,rfl⟩
    refine Av z z z ?_
    rintro _ _ ⟨rfl,b3,o1,rfl,h1⟩
    refine Av z z z ?_
    rintro _ _ ⟨rfl,rfl⟩
    refine Av z z z ?_
    rintro _ _ ⟨rfl,rfl⟩
    refine Av z z z ?_
    rintro _ _ ⟨rfl,b4,o2,rfl,h3⟩
    refine Av z z z ?_
    rintro _ _ ⟨rfl,rfl⟩
    refine Bv fun hn1 hb1=>have hC6:=hC5.grow hB7;tk 10 z z (fl_lss z z)<|AW z z z<|Ab<|dn<|Aj<|A7 z (fun hc5=>?_) (fun hc5=>?_)
    ·replace hL1:=A9 hL1 hc5
     refine Ac<|Ae z z<|Ab<|AC<|Ar<|AU<|Ar<|Ar<|AU<|Ar<|Ar<|?_
     obtain rfl:=Aa hL1
     dsimp only at hF
     obtain rfl:=Aa hF
     exact Ay z z<|⟨_,z,Bk hC6 _⟩
    replace hL1:=AA hL1 hc5
    refine A6<|Aj<|A0<|W_drawn 11 z hmix fun w9 hB8=>have hC7:=hC6.grow hB8;tf 0 AF Au z z z z z<|tm 2 z z z<|tf 5 AF Au z z z z z<|tm 7 z z z<|be hL1 fun x5 hx3 hL1=>be hL1 fun x6 hx4 hL1=>wAS (l':=[(2,(ptr b1 0)),(3,(ptr b2 0)),(5,(I x1)),(27,(.bool x2)),(30,(ptr b1 1)),(31,u1),(32,(I x1)),(33,(ptr b3 o1)),(34,(I x3)),(35,(ptr b2 1)),(36,u2),(37,(I x1)),(38,(ptr b4 o2)),(39,(I x4)),(40,(.bool (decide (x3 < x4)))),(41,(ptr b1 1)),(43,(I x1)),(46,(ptr b2 1)),(48,(I x1))]) ⟨z,z,z,z,z,z,z,z,z,z,z,z,z,z,z,z,z,z,z,Ah⟩<|Bq [⟨1,[],fun vs=>Bg u1,[]⟩,⟨3,[],fun vs=>Cj [] w0 x5,[]⟩,⟨4,[],fun vs=>Bg (I x5),[]⟩,⟨6,[],fun vs=>Bg u2,[]⟩,⟨8,[],fun vs=>Cj [] w0 x6,[]⟩,⟨9,[],fun vs=>Bg (I x6),[]⟩] [[],[1],[3],[],[6],[8]] 1 z (by kernel_rfl) (by kernel_rfl) z ?_ ?_
    ·refine Aq z ?_ ?_
     ·intro w10 hB9
      refine Ax<|⟨_,z,?_⟩
      exact Al (hC7.grow hB9) 1 z z At z z<|Ab<|A3 (Am _ _) z z ⟨z,z⟩
     refine Aq z ?_ ?_
     ·intro w10 hB9
      refine AN z z z ?_
      rintro _ _ ⟨rfl,rfl⟩ _
      refine Ax<|⟨_,z,?_⟩
      exact AE Ag ty3 g1 hx3 z z z fun b5 o3 h5=>Ab<|A3 (Am _ _) z z ⟨z,_,_,z,h5⟩
     refine Aq z ?_ ?_
     ·intro w10 hB9
      refine AN z z z ?_
      rintro _ _ ⟨rfl,b5,o3,rfl,h5⟩ _
      refine Ax<|⟨_,z,?_⟩
      refine AH ty3 h5 (hC7.keep.then hB9) z z (fun v3 h6=>?_)
      obtain rfl:=By h6
      exact Ab<|A3 (Am _ _) z z ⟨z,z⟩
     refine Aq z ?_ ?_
     ·intro w10 hB9
      refine Ax<|⟨_,z,?_⟩
      exact Al (hC7.grow hB9) 0 z z At z z<|Ab<|A3 (Am _ _) z z ⟨z,z⟩
     refine Aq z ?_ ?_
     ·intro w10 hB9
      refine AN z z z ?_
      rintro _ _ ⟨rfl,rfl⟩ _
      refine Ax<|⟨_,z,?_⟩
      exact AE Ag ty3 g2 hx4 z z z fun b6 o4 h7=>Ab<|A3 (Am _ _) z z ⟨z,_,_,z,h7⟩
     refine Aq z ?_ ?_
     ·intro w10 hB9
      refine AN z z z ?_
      rintro _ _ ⟨rfl,b6,o4,rfl,h7⟩ _
      refine Ax<|⟨_,z,?_⟩
      refine AH ty3 h7 (hC7.keep.then hB9) z z (fun v4 h8=>?_)
      obtain rfl:=By h8
      exact Ab<|A3 (Am _ _) z z ⟨z,z⟩
     exact Bl
    intro w11 hB10
    refine Av z z z ?_
    rintro _ _ ⟨rfl,rfl⟩
    refine Av z z z ?_
    rintro _ _ ⟨rfl,b5,o3,rfl,h5⟩
    refine Av z z z ?_
    rintro _ _ ⟨rfl,rfl⟩
    refine Av z z z ?_
    rintro _ _ ⟨rfl,rfl⟩
    refine Av z z z ?_
    rintro _ _ ⟨rfl,b6,o4,rfl,h7⟩
    refine Av z z z ?_
    rintro _ _ ⟨rfl,rfl⟩
    refine Bv fun hn2 hb2=>have hC8:=hC7.grow hB10;tk 10 z z (fl_gtr z z)<|C1 z z z<|Ab<|dn<|Aj<|A7 z (fun hc6=>?_) (fun hc6=>?_)
    ·replace hL1:=A9 hL1 hc6
     refine Ac<|Ae z z<|Ab<|AC<|AU<|Ar<|Ar<|AU<|Ar<|Ar<|?_
     obtain rfl:=Aa hL1
     dsimp only at hF
     obtain rfl:=Aa hF
     exact Ay z z<|⟨_,z,Bk hC8 _⟩
    replace hL1:=AA hL1 hc6
    exact A6<|AJ<|Aj<|AX<|Af z z<|Be z z z<|Ae z z<|Ab<|An (l':=[(2,(ptr b1 0)),(3,(ptr b2 0)),(5,(I (w64 (x1+1))))]) ⟨z,z,z,Ah⟩<|⟨k1,Az _,w64 (x1+1),z,((((((Ap hB3).then hB4).then hB5).then hB7).then hB8).then hB10).below,hC8,hL1⟩
   replace hL1:=AA hL1 hc4
   refine Bm (A2 (A2 (AT ?_)))
   obtain rfl:=Aa hL1
   exact An (l':=[(2,(ptr b1 0)),(3,(ptr b2 0))]) ⟨z,z,Ah⟩<|⟨z,z,((Ap hB3).then hB4).below,hC4⟩
 rintro l3 _ w12 hs3 ⟨rfl,rfl,hB11,hC9⟩
 try dsimp only at hF
 refine AO hs3 ?_
 clear hs3
 refine A0<|Ac<|fd AF Au z z z z<|Al hC9 1 z z At z z<|AL Ag g1 z z<|fd AF Au z z z z<|Al hC9 0 z z At z z<|AL Ag g2 z z<|AW z z z<|Ab<|A7 z (fun hc7=>?_) (fun hc7=>?_)
 ·replace hF:=A9 hF hc7
  refine Ac<|Ae z z<|Ab<|AC<|Ar<|?_
  obtain rfl:=Aa hF
  exact Ay z z<|⟨_,z,Bk hC9 _⟩
 replace hF:=AA hF hc7
 refine A6<|Aj<|A0<|Ac<|fd AF Au z z z z<|Al hC9 1 z z At z z<|AL Ag g1 z z<|fd AF Au z z z z<|Al hC9 0 z z At z z<|AL Ag g2 z z<|C1 z z z<|Ab<|A7 z (fun hc8=>?_) (fun hc8=>?_)
 ·replace hF:=A9 hF hc8
  refine Ac<|Ae z z<|Ab<|AC<|Ar<|?_
  obtain rfl:=Aa hF
  exact Ay z z<|⟨_,z,Bk hC9 _⟩
 replace hF:=AA hF hc8
 refine A6<|Aj<|Ac<|Ae z z<|Ab<|AC<|?_
 obtain rfl:=Aa hF
 exact Ay z z<|⟨_,z,Bk hC9 _⟩
theorem c_S_IsFact {w0:World} (a1:(List Int)) (u1:Value) (g1:RO [] w0 u1 a1) (a2:(Int × (List Int))) (u2:Value) (g2:RO [] w0 u2 a2.2) (rr:Bool) (hF:S.IsFact a1 a2=some rr) :
 Calls Tryz.prog 221 [u1,(.agg #[(I a2.1),u2])].toArray w0 fun e w'=>∃v,e=.returned v∧Res w0 rr v w':=by
 refine Aw Tryz.func221 z z ?_
 have hC0:=A1 w0
 unfold S.IsFact at hF
 refine Ac<|Bb (cs:=[(I a2.1),u2]) hC0 z z z fun b1 w1 hC1 hB1 hN1=>Ae z z<|Ab<|A0<|be hF fun r1 hr1 hF=>BH (fun l w=>∃x1:Bool,x1=r1∧l=[(3,(ptr b1 0)),(28,(.bool x1))]∧Below w1.heap.size w1 w∧Ctx [] w0 w [Ai b1 [(I a2.1),u2]]) ?_ ?_
 ·refine W_drawn 23 z hmix fun w3 hB3=>have hC3:=hC1.grow hB3;tm 0 z z z<|be hr1 fun x2 hr2 hr1=>oe 1 z<|cb CE z z (c_S_IsSchema a1 u1 (g1.now hC3.keep) x2 hr2) fun w4 hB4=>have hC4:=hC3.grow hB4;Ab<|tk 2 z z (Cs z)<|Bw z z<|Ab<|tm 3 z z z<|BP (fun hc1=>?_) (fun hc1=>?_)
  ·replace hr1:=A9 hr1 hc1
   refine sk 4 z z z z z<|sk 5 z z z z z<|sk 6 z z z z z<|sk 7 z z z z z<|sk 8 z z z z z<|sk 9 z z z z z<|sk 10 z z z z z<|tp 11 z z z z<|tm 12 z z z<|sk 13 z z z z z<|sk 14 z z z z z<|sk 15 z z z z z<|sk 16 z z z z z<|sk 17 z z z z z<|sk 18 z z z z z<|sk 19 z z z z z<|sk 20 z z z z z<|sk 21 z z z z z<|tp 22 z z z z<|dn<|?_
   obtain rfl:=Aa hr1
   exact An (l':=[(3,(ptr b1 0)),(28,(.bool true))]) ⟨z,z,Ah⟩<|⟨true,z,z,((Ap hB3).then hB4).below,hC4⟩
  replace hr1:=AA hr1 hc1
  refine tg 4 z z z z (BG AF z z (fun w=>⟨_,A5 w⟩) z)<|Ak z z<|fd AF A5 z z z z<|Ab<|tn 6 z z z z z<|tg 7 z z z z (fl_len Ag g1 z)<|Ak z z<|AL Ag g1 z z<|Ab<|tg 8 z z z z (Dv z z)<|Ak z z<|Cv z z z<|Ab<|oe 5 z<|Ak z z<|Al hC4 0 z z AV z z<|Ab<|be hr1 fun x3 hr3 hr1=>oe 9 z<|Ak z z<|cb BN z z (c_S_l1In a2.1 0 (w64 ((List.length a1:Int) - 1)) x3 hr3) fun w5 hB5=>have hC5:=hC4.grow hB5;Ab<|tg 10 z z z z (Cs z)<|Ak z z<|Bw z z<|Ab<|tq 11 z z z z<|tm 12 z z z<|BP (fun hc2=>?_) (fun hc2=>?_)
  ·replace hr1:=A9 hr1 hc2
   refine sk 13 z z z z z<|sk 14 z z z z z<|sk 15 z z z z z<|sk 16 z z z z z<|sk 17 z z z z z<|sk 18 z z z z z<|sk 19 z z z z z<|sk 20 z z z z z<|sk 21 z z z z z<|tp 22 z z z z<|dn<|?_
   obtain rfl:=Aa hr1
   exact An (l':=[(3,(ptr b1 0)),(28,(.bool true))]) ⟨z,z,Ah⟩<|⟨true,z,z,(((Ap hB3).then hB4).then hB5).below,hC5⟩
  replace hr1:=AA hr1 hc2
  refine tg 13 z z z z (BG AF z z (fun w=>⟨_,Au w⟩) z)<|Ak z z<|fd AF Au z z z z<|Ab<|tn 16 z z z z z<|tg 17 z z z z (BG AF z z (fun w=>⟨_,A5 w⟩) z)<|Ak z z<|fd AF A5 z z z z<|Ab<|be hr1 fun x4 hx1 hr1=>wAS (l':=[(0,u1),(1,(.agg #[(I a2.1),u2])),(3,(ptr b1 0)),(4,(.bool false)),(6,u1),(7,(.bool x2)),(8,(.bool (!x2))),(9,(.bool false)),(10,(ptr b1 0)),(11,(I a2.1)),(12,u1),(13,(I (List.length a1:Int))),(14,(I (w64 ((List.length a1:Int) - 1)))),(15,(.bool x3)),(16,(.bool (!x3))),(17,(.bool (!x3))),(18,(.bool false)),(19,(ptr b1 1)),(22,u1),(23,(ptr b1 0))]) ⟨z,z,z,z,z,z,z,z,z,z,z,z,z,z,z,z,z,z,z,z,Ah⟩<|Bq [⟨14,[],fun vs=>Bg u2,[]⟩,⟨15,[],fun vs=>Bg (I (List.length a2.2:Int)),[]⟩,⟨18,[],fun vs=>Bg (I a2.1),[]⟩,⟨19,[],fun vs=>Cj [] w0 x4,[]⟩,⟨20,[],fun vs=>Bg (I x4),[]⟩] [[],[14],[],[18],[19]] 2 z (by kernel_rfl) (by kernel_rfl) z ?_ ?_
  ·refine Aq z ?_ ?_
   ·intro w6 hB6
    refine Ax<|⟨_,z,?_⟩
    exact Ak z z<|Al (hC5.grow hB6) 0 z z At z z<|Ab<|A3 (Am _ _) z z ⟨z,z⟩
   refine Aq z ?_ ?_
   ·intro w6 hB6
    refine AN z z z ?_
    rintro _ _ ⟨rfl,rfl⟩ _
    refine Ax<|⟨_,z,?_⟩
    exact Ak z z<|AL Ag g2 z z<|Ab<|A3 (Am _ _) z z ⟨z,z⟩
   refine Aq z ?_ ?_
   ·intro w6 hB6
    refine Ax<|⟨_,z,?_⟩
    exact Ak z z<|Al (hC5.grow hB6) 0 z z AV z z<|Ab<|A3 (Am _ _) z z ⟨z,z⟩
   refine Aq z ?_ ?_
   ·intro w6 hB6
    refine AN z z z ?_
    rintro _ _ ⟨rfl,rfl⟩ _
    refine Ax<|⟨_,z,?_⟩
    exact Ak z z<|AE Ag ty3 g1 hx1 z z z fun b2 o1 h1=>Ab<|A3 (Am _ _) z z ⟨z,_,_,z,h1⟩
   refine Aq z ?_ ?_
   ·intro w6 hB6
    refine AN z z z ?_
    rintro _ _ ⟨rfl,b2,o1,rfl,h1⟩ _
    refine Ax<|⟨_,z,?_⟩
    refine Ak z z<|AH ty3 h1 (hC5.keep.then hB6) z z fun v1 h2=>?_
    obtain rfl:=By h2
    exact Ab<|A3 (Am _ _) z z ⟨z,z⟩
   exact Bl
  intro w7 hB7
  refine Av z z z ?_
  rintro _ _ ⟨rfl,rfl⟩
  refine Av z z z ?_
  rintro _ _ ⟨rfl,rfl⟩
  refine Av z z z ?_
  rintro _ _ ⟨rfl,rfl⟩
  refine Av z z z ?_
  rintro _ _ ⟨rfl,b2,o1,rfl,h1⟩
  refine Av z z z ?_
  rintro _ _ ⟨rfl,rfl⟩
  refine Bv fun hn1 hb1=>have hC6:=hC5.grow hB7;tg 21 z z z z (CZ z z)<|Ak z z<|BI z z z<|Ab<|tq 22 z z z z<|dn<|?_
  obtain rfl:=Aa hr1
  exact An (l':=[(3,(ptr b1 0)),(28,(.bool (!decide ((List.length a2.2:Int)=x4))))]) ⟨z,z,Ah⟩<|⟨(!decide ((List.length a2.2:Int)=x4)),z,z,((((Ap hB3).then hB4).then hB5).then hB7).below,hC6⟩
 rintro _ w2 ⟨x1,rfl,rfl,hB2,hC2⟩
 try dsimp only at hF
 refine A7 z (fun hc3=>?_) (fun hc3=>?_)
 ·replace hF:=A9 hF hc3
  refine Ac<|Ae z z<|Ab<|AC<|Ar<|?_
  obtain rfl:=Aa hF
  exact Ay z z<|⟨_,z,AD hC2 _⟩
 replace hF:=AA hF hc3
 refine A6<|Aj<|A0<|Ac<|Ae z z<|Ab<|be hF fun r2 hr4 hF=>Bf (fun l w=>.inl ()=r2∧l=[]∧Below w2.heap.size w2 w∧Ctx [] w0 w []) ?_ ?_
 ·refine AB<|wS (l':=[(3,(ptr b1 0)),(5,(I 0))]) ⟨z,z,Ah⟩<|Bo (fun k l w=>∃x5:Int,l=[(3,(ptr b1 0)),(5,(I x5))]∧Below w2.heap.size w2 w∧Ctx [] w0 w [Ai b1 [(I a2.1),u2]]∧S.IsFact_l1 a2 k x5=some r2) FUEL ⟨0,z,(Am _ _),hC2,hr4⟩<|?_
  clear hr4
  rintro k1 _ w9 ⟨x5,rfl,hB8,hC7,hL1⟩
  cases k1 with
  | zero=>rw [S.IsFact_l1] at hL1; cases hL1
  | succ k1 =>
   rw [S.IsFact_l1] at hL1
   refine A0<|Ac<|Af z z<|fd AF Au z z z z<|Al hC7 0 z z At z z<|AL Ag g2 z z<|AW z z z<|Ab<|A7 z (fun hc4=>?_) (fun hc4=>?_)
   ·replace hL1:=A9 hL1 hc4
    refine A6<|Aj<|A0<|AB<|Ac<|fd AF Au z z z z<|Al hC7 0 z z At z z<|Af z z<|be hL1 fun x6 hx2 hL1=>AE Ag ty3 g2 hx2 z z z fun b3 o2 h3=>AH ty3 h3 hC7.keep z z fun v2 h4=>?_
    obtain rfl:=By h4
    refine be hL1 fun x7 hr5 hL1=>cb BN z z (c_S_l1In x6 0 9 x7 hr5) fun w10 hB9=>have hC8:=hC7.grow hB9;Bw z z<|Ab<|A7 z (fun hc5=>?_) (fun hc5=>?_)
    ·replace hL1:=A9 hL1 hc5
     refine Ac<|Ae z z<|Ab<|AC<|AU<|Ar<|Ar<|AU<|Ar<|Ar<|?_
     obtain rfl:=Aa hL1
     dsimp only at hF
     obtain rfl:=Aa hF
     exact Ay z z<|⟨_,z,AD hC8 _⟩
    replace hL1:=AA hL1 hc5
    exact A6<|AJ<|Aj<|AX<|Af z z<|Be z z z<|Ae z z<|Ab<|An (l':=[(3,(ptr b1 0)),(5,(I (w64 (x5+1))))]) ⟨z,z,Ah⟩<|⟨k1,Az _,w64 (x5+1),z,((Ap hB8).then hB9).below,hC8,hL1⟩
   replace hL1:=AA hL1 hc4
   refine Bm (A2 (A2 (AT ?_)))
   obtain rfl:=Aa hL1
   have hC9:=hC7.h0
   exact An (l':=[]) Ah<|⟨z,z,(Ap hB8).below,hC9⟩
 rintro l3 _ w11 hs3 ⟨rfl,rfl,hB10,hC10⟩
 try dsimp only at hF
 refine AO hs3 ?_
 clear hs3
 refine Ac<|Ae z z<|Ab<|AC<|?_
 obtain rfl:=Aa hF
 exact Ay z z<|⟨_,z,AD hC10 _⟩
theorem c_S_AreFacts {w0:World} (a1:(List Int)) (u1:Value) (g1:RO [] w0 u1 a1) (a2:(List (Int × (List Int)))) (u2:Value) (g2:RO [] w0 u2 a2) (rr:Bool) (hF:S.AreFacts a1 a2=some rr) :
 Calls Tryz.prog 202 [u1,u2].toArray w0 fun e w'=>∃v,e=.returned v∧Res w0 rr v w':=by
 refine Aw Tryz.func202 z z ?_
 have hC0:=A1 w0
 unfold S.AreFacts at hF
 refine Ac<|Ae z z<|Ab<|A0<|Ac<|Ae z z<|Ab<|be hF fun r1 hr1 hF=>Bf (fun l w=>.inl ()=r1∧l=[(0,u1),(1,u2)]∧Below w0.heap.size w0 w∧Ctx [] w0 w []) ?_ ?_
 ·refine AB<|wS (l':=[(0,u1),(1,u2),(5,(I 0))]) ⟨z,z,z,Ah⟩<|Bo (fun k l w=>∃x1:Int,l=[(0,u1),(1,u2),(5,(I x1))]∧Below w0.heap.size w0 w∧Ctx [] w0 w []∧S.AreFacts_l1 a2 a1 k x1=some r1) FUEL ⟨0,z,(Am _ _),hC0,hr1⟩<|?_
  clear hr1
  rintro k1 _ w1 ⟨x1,rfl,hB1,hC1,hL1⟩
  cases k1 with
  | zero=>rw [S.AreFacts_l1] at hL1; cases hL1
  | succ k1 =>
   rw [S.AreFacts_l1] at hL1
   refine A0<|Ac<|Af z z<|Af z z<|AL Ao g2 z z<|AW z z z<|Ab<|A7 z (fun hc1=>?_) (fun hc1=>?_)
   ·replace hL1:=A9 hL1 hc1
    refine A6<|Aj<|A0<|AB<|be hL1 fun r2 hr2 hL1=>BH (fun l w=>∃x2:Bool,x2=r2∧l=[(0,u1),(1,u2),(5,(I x1)),(35,(.bool x2))]∧Below w1.heap.size w1 w∧Ctx [] w0 w []) ?_ ?_
    ·refine W_drawn 24 z hmix fun w3 hB3=>have hC3:=hC1.grow hB3;tm 0 z z z<|tm 1 z z z<|tm 2 z z z<|be hr2 fun x3 hx1 hr2=>tk 3 z z (B8 Ao ty77 g2 hx1 z z)<|AE Ao ty77 g2 hx1 z z z fun b1 o1 h1=>Ab<|oe 4 z<|AH ty77 h1 hC3.keep z z fun v1 h2=>?_
     obtain ⟨v2,rfl,h3⟩:=BM h2
     refine Ab<|be hr2 fun x4 hr3 hr2=>oe 5 z<|cb Tryz.call221 z z (c_S_IsFact a1 u1 (g1.now hC3.keep) x3 v2 (h3.now hC3.keep) x4 hr3) fun w4 hB4=>have hC4:=hC3.grow hB4;Ab<|tk 6 z z (Cs z)<|Bw z z<|Ab<|tm 7 z z z<|BP (fun hc2=>?_) (fun hc2=>?_)
     ·replace hr2:=A9 hr2 hc2
      refine sk 8 z z z z z<|sk 9 z z z z z<|sk 10 z z z z z<|sk 11 z z z z z<|sk 12 z z z z z<|sk 13 z z z z z<|sk 14 z z z z z<|sk 15 z z z z z<|sk 16 z z z z z<|sk 17 z z z z z<|sk 18 z z z z z<|sk 19 z z z z z<|sk 20 z z z z z<|sk 21 z z z z z<|sk 22 z z z z z<|tp 23 z z z z<|dn<|?_
      obtain rfl:=Aa hr2
      exact An (l':=[(0,u1),(1,u2),(5,(I x1)),(35,(.bool true))]) ⟨z,z,z,z,Ah⟩<|⟨true,z,z,((Ap hB3).then hB4).below,hC4⟩
     replace hr2:=AA hr2 hc2
     refine tn 8 z z z z z<|tg 9 z z z z (fl_gtr z z)<|Ak z z<|C1 z z z<|Ab<|tn 10 z z z z z<|BP (fun hc3=>?_) (fun hc3=>?_)
     ·replace hr2:=A9 hr2 hc3
      refine tn 11 z z z z z<|tn 12 z z z z z<|tg 13 z z z z (Dv z z)<|Ak z z<|Cv z z z<|Ab<|be hr2 fun x5 hx2 hr2=>tg 14 z z z z (B8 Ao ty77 g2 hx2 z z)<|Ak z z<|AE Ao ty77 g2 hx2 z z z fun b2 o2 h4=>Ab<|tn 16 z z z z z<|tn 17 z z z z z<|be hr2 fun x6 hx3 hr2=>tg 18 z z z z (B8 Ao ty77 g2 hx3 z z)<|Ak z z<|AE Ao ty77 g2 hx3 z z z fun b3 o3 h5=>Ab<|wAS (l':=[(0,u1),(1,u2),(5,(I x1)),(6,(I x1)),(7,u2),(8,(I (List.length a2:Int))),(9,(.bool (decide (x1 < (List.length a2:Int))))),(12,u1),(13,u2),(14,(I x1)),(15,(ptr b1 o1)),(16,(.agg #[(I x3.1),v2])),(17,(.bool x4)),(18,(.bool (!x4))),(19,(.bool false)),(20,(I x1)),(21,(.bool (decide (0 < x1)))),(22,(.bool true)),(23,u2),(24,(I x1)),(25,(I (w64 (x1 - 1)))),(26,(ptr b2 o2)),(28,u2),(29,(I x1)),(30,(ptr b3 o3))]) ⟨z,z,z,z,z,z,z,z,z,z,z,z,z,z,z,z,z,z,z,z,z,z,z,z,z,Ah⟩<|Bq [⟨15,[],fun vs=>Cc [] w0 x5,[]⟩,⟨19,[],fun vs=>Cc [] w0 x6,[]⟩] [[],[]] 4 z (by kernel_rfl) (by kernel_rfl) z ?_ ?_
      ·refine Aq z ?_ ?_
       ·intro w5 hB5
        refine Ax<|⟨_,z,?_⟩
        exact Ak z z<|AH ty77 h4 (hC4.keep.then hB5) z z fun v5 h8=>Ab<|A3 (Am _ _) z z ⟨z,h8⟩
       refine Aq z ?_ ?_
       ·intro w5 hB5
        refine Ax<|⟨_,z,?_⟩
        exact Ak z z<|AH ty77 h5 (hC4.keep.then hB5) z z fun v8 h11=>Ab<|A3 (Am _ _) z z ⟨z,h11⟩
       exact Bl
      intro w6 hB6
      refine Av z z z ?_
      rintro v5 _ ⟨rfl,h8⟩
      obtain ⟨v4,rfl,h7⟩:=BM h8
      refine Av z z z ?_
      rintro v8 _ ⟨rfl,h11⟩
      obtain ⟨v7,rfl,h10⟩:=BM h11
      refine Bv fun hn1 hb1=>have hC5:=hC4.grow hB6;be hr2 fun x7 hr4 hr2=>oe 20 z<|Ak z z<|ci Tryz.call53 z z (c_S_CompareFacts x5 v4 (h7.now hC5.keep) x6 v7 (h10.now hC5.keep) x7 hr4) fun w7 hB7=>have hC6:=hC5.grow hB7;Ab<|tg 21 z z z z (fl_geq z z)<|Ak z z<|Cu z z z<|Ab<|tg 22 z z z z (Ds z z)<|Ak z z<|Ba z z z<|Ab<|tq 23 z z z z<|dn<|?_
      obtain rfl:=Aa hr2
      exact An (l':=[(0,u1),(1,u2),(5,(I x1)),(35,(.bool (decide (0 ≤ x7))))]) ⟨z,z,z,z,Ah⟩<|⟨(decide (0 ≤ x7)),z,z,((((Ap hB3).then hB4).then hB6).then hB7).below,hC6⟩
     replace hr2:=AA hr2 hc3
     refine sk 11 z z z z z<|sk 12 z z z z z<|sk 13 z z z z z<|sk 14 z z z z z<|sk 15 z z z z z<|sk 16 z z z z z<|sk 17 z z z z z<|sk 18 z z z z z<|sk 19 z z z z z<|sk 20 z z z z z<|sk 21 z z z z z<|tg 22 z z z z (Dt z z)<|Ak z z<|AY z z z<|Ab<|tq 23 z z z z<|dn<|?_
     obtain rfl:=Aa hr2
     exact An (l':=[(0,u1),(1,u2),(5,(I x1)),(35,(.bool false))]) ⟨z,z,z,z,Ah⟩<|⟨false,z,z,((Ap hB3).then hB4).below,hC4⟩
    rintro _ w2 ⟨x2,rfl,rfl,hB2,hC2⟩
    try dsimp only at hL1
    refine A7 z (fun hc4=>?_) (fun hc4=>?_)
    ·replace hL1:=A9 hL1 hc4
     refine Ac<|Ae z z<|Ab<|AC<|AU<|Ar<|Ar<|AU<|Ar<|Ar<|?_
     obtain rfl:=Aa hL1
     dsimp only at hF
     obtain rfl:=Aa hF
     exact Ay z z<|⟨_,z,AD hC2 _⟩
    replace hL1:=AA hL1 hc4
    exact A6<|AJ<|Aj<|AX<|Af z z<|Be z z z<|Ae z z<|Ab<|An (l':=[(0,u1),(1,u2),(5,(I (w64 (x1+1))))]) ⟨z,z,z,Ah⟩<|⟨k1,Az _,w64 (x1+1),z,((Ap hB1).then hB2).below,hC2,hL1⟩
   replace hL1:=AA hL1 hc1
   refine Bm (A2 (A2 (AT ?_)))
   obtain rfl:=Aa hL1
   exact An (l':=[(0,u1),(1,u2)]) ⟨z,z,Ah⟩<|⟨z,z,(Ap hB1).below,hC1⟩
 rintro l3 _ w9 hs3 ⟨rfl,rfl,hB8,hC7⟩
 try dsimp only at hF
 refine AO hs3 ?_
 clear hs3
 refine be hF fun r3 hr5 hF=>BH (fun l w=>∃x8:Bool,x8=r3∧l=[(4,(.bool x8))]∧Below w9.heap.size w9 w∧Ctx [] w0 w []) ?_ ?_
 ·refine AX<|Af z z<|be hr5 fun x9 hr6 hr5=>cb CE z z (c_S_IsSchema a1 u1 (g1.now hC7.keep) x9 hr6) fun w11 hB10=>have hC9:=hC7.grow hB10;Af z z<|Bz (fun hc5=>?_) (fun hc5=>?_)
  ·replace hr5:=A9 hr5 hc5
   refine Ak z z<|Af z z<|Ak z z<|AL Ao g2 z z<|Ak z z<|CQ z z z<|Ba z z z<|Ae z z<|Ab<|?_
   obtain rfl:=Aa hr5
   exact An (l':=[(4,(.bool (decide ((List.length a2:Int) ≤ 24))))]) ⟨z,Ah⟩<|⟨(decide ((List.length a2:Int) ≤ 24)),z,z,(Ap hB10).below,hC9⟩
  replace hr5:=AA hr5 hc5
  refine gs z z z z<|gs z z z z<|gs z z z z<|AY z z z<|Ae z z<|Ab<|?_
  obtain rfl:=Aa hr5
  exact An (l':=[(4,(.bool false))]) ⟨z,Ah⟩<|⟨false,z,z,(Ap hB10).below,hC9⟩
 rintro _ w10 ⟨x8,rfl,rfl,hB9,hC8⟩
 try dsimp only at hF
 refine AC ?_
 obtain rfl:=Aa hF
 exact Ay z z<|⟨_,z,AD hC8 _⟩
theorem c_S_IsTold {w0:World} (a1:(List Int)) (u1:Value) (g1:RO [] w0 u1 a1) (a2:(List (Int × (List Int) × Int × Int × Int))) (u2:Value) (g2:RO [] w0 u2 a2) (a3:((Int × (List Int)) × (List (Int × (List Int))))) (u3:Value) (g3:RO [] w0 u3 a3.1.2) (u4:Value) (g4:RO [] w0 u4 a3.2) (rr:Bool) (hF:S.IsTold a1 a2 a3=some rr) :
 Calls Tryz.prog 159 [u1,u2,(.agg #[(I a3.1.1),u3,u4])].toArray w0 fun e w'=>∃v,e=.returned v∧Res w0 rr v w':=by
 refine Aw Tryz.func159 z z ?_
 have hC0:=A1 w0
 unfold S.IsTold at hF
 refine Ac<|Bb (cs:=[(I a3.1.1),u3,u4]) hC0 z z z fun b1 w1 hC1 hB1 hN1=>Ae z z<|Ab<|be hF fun r1 hr1 hF=>BH (fun l w=>∃x1:Bool,x1=r1∧l=[(6,(.bool x1))]∧Below w1.heap.size w1 w∧Ctx [] w0 w []) ?_ ?_
 ·refine AX<|Af z z<|Af z z<|fd AQ Bu z z z z<|A4 [(I a3.1.1),u3] hC1 0 z z z BZ Bu z z<|be hr1 fun x2 hr2 hr1=>cb Tryz.call201 z z (c_S_IsAccess a1 u1 (g1.now hC1.keep) a2 u2 (g2.now hC1.keep) (a3.1.1,a3.1.2) u3 (g3.now hC1.keep) x2 hr2) fun w3 hB3=>have hC3:=hC1.grow hB3;Af z z<|Bz (fun hc1=>?_) (fun hc1=>?_)
  ·replace hr1:=A9 hr1 hc1
   refine Ak z z<|Af z z<|Ak z z<|fd AQ Bx z z z z<|Ak z z<|Al hC3 0 z z B9 z z<|be hr1 fun x3 hr3 hr1=>Ak z z<|cb Tryz.call202 z z (c_S_AreFacts a1 u1 (g1.now hC3.keep) a3.2 u4 (g4.now hC3.keep) x3 hr3) fun w4 hB4=>have hC4:=hC3.grow hB4;Ba z z z<|Ae z z<|Ab<|?_
   obtain rfl:=Aa hr1
   have hC5:=hC4.h0
   exact An (l':=[(6,(.bool x3))]) ⟨z,Ah⟩<|⟨x3,z,z,((Ap hB3).then hB4).below,hC5⟩
  replace hr1:=AA hr1 hc1
  refine gs z z z z<|gs z z z z<|gs z z z z<|gs z z z z<|AY z z z<|Ae z z<|Ab<|?_
  obtain rfl:=Aa hr1
  have hC6:=hC3.h0
  exact An (l':=[(6,(.bool false))]) ⟨z,Ah⟩<|⟨false,z,z,(Ap hB3).below,hC6⟩
 rintro _ w2 ⟨x1,rfl,rfl,hB2,hC2⟩
 try dsimp only at hF
 refine AC ?_
 obtain rfl:=Aa hF
 exact Ay z z<|⟨_,z,AD hC2 _⟩
theorem c_S_l5Fits {w0:World} (a1:(Int × (List Int) × Int × Int × Int)) (u1:Value) (g1:RO [] w0 u1 a1.2.1) (a2:(List Int)) (u2:Value) (g2:RO [] w0 u2 a2) (a3:(Int × (List Int))) (u3:Value) (g3:RO [] w0 u3 a3.2) (rr:Bool) (hF:S.l5Fits a1 a2 a3=some rr) :
 Calls Tryz.prog 160 [(.agg #[(I a1.1),u1,(I a1.2.2.1),(I a1.2.2.2.1),(I a1.2.2.2.2)]),u2,(.agg #[(I a3.1),u3])].toArray w0 fun e w'=>∃v,e=.returned v∧Res w0 rr v w':=by
 refine Aw Tryz.func160 z z ?_
 have hC0:=A1 w0
 unfold S.l5Fits at hF
 refine Ac<|Bb (cs:=[(I a1.1),u1,(I a1.2.2.1),(I a1.2.2.2.1),(I a1.2.2.2.2)]) hC0 z z z fun b1 w1 hC1 hB1 hN1=>Bb (cs:=[(I a3.1),u3]) hC1 z z z fun b2 w2 hC2 hB2 hN2=>Ae z z<|Ab<|A0<|Ac<|fd AF A5 z z z z<|Al hC2 0 z z AV z z<|fd AK A5 z z z z<|Al hC2 1 z z AV z z<|BI z z z<|Ab<|A7 z (fun hc1=>?_) (fun hc1=>?_)
 ·replace hF:=A9 hF hc1
  refine Ac<|Ae z z<|Ab<|AC<|Ar<|?_
  obtain rfl:=Aa hF
  exact Ay z z<|⟨_,z,AD hC2 _⟩
 replace hF:=AA hF hc1
 refine A6<|Aj<|A0<|Ac<|Ae z z<|Ab<|be hF fun r1 hr1 hF=>Bf (fun l w=>.inl ()=r1∧l=[]∧Below w2.heap.size w2 w∧Ctx [] w0 w []) ?_ ?_
 ·refine AB<|wS (l':=[(1,u2),(3,(ptr b1 0)),(5,(ptr b2 0)),(7,(I 0))]) ⟨z,z,z,z,Ah⟩<|Bo (fun k l w=>∃x1:Int,l=[(1,u2),(3,(ptr b1 0)),(5,(ptr b2 0)),(7,(I x1))]∧Below w2.heap.size w2 w∧Ctx [] w0 w [Ai b2 [(I a3.1),u3],Ai b1 [(I a1.1),u1,(I a1.2.2.1),(I a1.2.2.2.1),(I a1.2.2.2.2)]]∧S.l5Fits_l1 a1 a2 a3 k x1=some r1) FUEL ⟨0,z,(Am _ _),hC2,hr1⟩<|?_
  clear hr1
  rintro k1 _ w3 ⟨x1,rfl,hB3,hC3,hL1⟩
  cases k1 with
  | zero=>rw [S.l5Fits_l1] at hL1; cases hL1
  | succ k1 =>
   rw [S.l5Fits_l1] at hL1
   refine A0<|Ac<|Af z z<|fd AK Au z z z z<|Al hC3 1 z z At z z<|AL Ag g1 z z<|AW z z z<|Ab<|A7 z (fun hc2=>?_) (fun hc2=>?_)
   ·replace hL1:=A9 hL1 hc2
    refine A6<|Aj<|A0<|AB<|A0<|W_drawn 14 z hmix fun w4 hB4=>have hC4:=hC3.grow hB4;tf 0 AF Au z z z z z<|tf 2 AK Au z z z z z<|tm 4 z z z<|tm 9 z z z<|tm 10 z z z<|be hL1 fun x2 hx1 hL1=>tk 11 z z (B8 Ag ty3 g2 hx1 z z)<|AE Ag ty3 g2 hx1 z z z fun b3 o1 h1=>Ab<|be hL1 fun x3 hx2 hL1=>be hL1 fun x4 hx3 hL1=>wAS (l':=[(1,u2),(3,(ptr b1 0)),(5,(ptr b2 0)),(7,(I x1)),(13,(I x1)),(14,(ptr b1 1)),(15,u1),(16,(I (List.length a1.2.1:Int))),(17,(.bool (decide (x1 < (List.length a1.2.1:Int))))),(20,(ptr b2 1)),(22,(ptr b1 1)),(24,(I x1)),(29,u2),(30,(I x1)),(31,(ptr b3 o1))]) ⟨z,z,z,z,z,z,z,z,z,z,z,z,z,z,z,Ah⟩<|Bq [⟨1,[],fun vs=>Bg u3,[]⟩,⟨3,[],fun vs=>Bg u1,[]⟩,⟨5,[],fun vs=>Cj [] w0 x3,[]⟩,⟨6,[],fun vs=>Bg (I x3),[]⟩,⟨7,[],fun vs=>Cj [] w0 x4,[]⟩,⟨8,[],fun vs=>Bg (I x4),[]⟩,⟨12,[],fun vs=>Bg (I x2),[]⟩] [[],[],[3],[5],[1,6],[7],[]] 1 z (by kernel_rfl) (by kernel_rfl) z ?_ ?_
    ·refine Aq z ?_ ?_
     ·intro w5 hB5
      refine Ax<|⟨_,z,?_⟩
      exact Al (hC4.grow hB5) 0 z z At z z<|Ab<|A3 (Am _ _) z z ⟨z,z⟩
     refine Aq z ?_ ?_
     ·intro w5 hB5
      refine Ax<|⟨_,z,?_⟩
      exact Al (hC4.grow hB5) 1 z z At z z<|Ab<|A3 (Am _ _) z z ⟨z,z⟩
     refine Aq z ?_ ?_
     ·intro w5 hB5
      refine AN z z z ?_
      rintro _ _ ⟨rfl,rfl⟩ _
      refine Ax<|⟨_,z,?_⟩
      exact AE Ag ty3 g1 hx2 z z z fun b4 o2 h2=>Ab<|A3 (Am _ _) z z ⟨z,_,_,z,h2⟩
     refine Aq z ?_ ?_
     ·intro w5 hB5
      refine AN z z z ?_
      rintro _ _ ⟨rfl,b4,o2,rfl,h2⟩ _
      refine Ax<|⟨_,z,?_⟩
      refine AH ty3 h2 (hC4.keep.then hB5) z z (fun v1 h3=>?_)
      obtain rfl:=By h3
      exact Ab<|A3 (Am _ _) z z ⟨z,z⟩
     refine Aq z ?_ ?_
     ·intro w5 hB5
      refine AN z z z ?_
      rintro _ _ ⟨rfl,rfl⟩ _
      refine AN z z z ?_
      rintro _ _ ⟨rfl,rfl⟩ _
      refine Ax<|⟨_,z,?_⟩
      exact AE Ag ty3 g3 hx3 z z z fun b5 o3 h4=>Ab<|A3 (Am _ _) z z ⟨z,_,_,z,h4⟩
     refine Aq z ?_ ?_
     ·intro w5 hB5
      refine AN z z z ?_
      rintro _ _ ⟨rfl,b5,o3,rfl,h4⟩ _
      refine Ax<|⟨_,z,?_⟩
      refine AH ty3 h4 (hC4.keep.then hB5) z z (fun v2 h5=>?_)
      obtain rfl:=By h5
      exact Ab<|A3 (Am _ _) z z ⟨z,z⟩
     refine Aq z ?_ ?_
     ·intro w5 hB5
      refine Ax<|⟨_,z,?_⟩
      refine AH ty3 h1 (hC4.keep.then hB5) z z (fun v3 h6=>?_)
      obtain rfl:=By h6
      exact Ab<|A3 (Am _ _) z z ⟨z,z⟩
     exact Bl
    intro w6 hB6
    refine Av z z z ?_
    rintro _ _ ⟨rfl,rfl⟩
    refine Av z z z ?_
    rintro _ _ ⟨rfl,rfl⟩
    refine Av z z z ?_
    rintro _ _ ⟨rfl,b4,o2,rfl,h2⟩
    refine Av z z z ?_
    rintro _ _ ⟨rfl,rfl⟩
    refine Av z z z ?_
    rintro _ _ ⟨rfl,b5,o3,rfl,h4⟩
    refine Av z z z ?_
    rintro _ _ ⟨rfl,rfl⟩
    refine Av z z z ?_
    rintro _ _ ⟨rfl,rfl⟩
    refine Bv fun hn1 hb1=>have hC5:=hC4.grow hB6;tk 13 z z (CZ z z)<|BI z z z<|Ab<|dn<|Aj<|A7 z (fun hc3=>?_) (fun hc3=>?_)
    ·replace hL1:=A9 hL1 hc3
     refine Ac<|Ae z z<|Ab<|AC<|AU<|Ar<|Ar<|AU<|Ar<|Ar<|?_
     obtain rfl:=Aa hL1
     dsimp only at hF
     obtain rfl:=Aa hF
     exact Ay z z<|⟨_,z,AD hC5 _⟩
    replace hL1:=AA hL1 hc3
    exact A6<|AJ<|Aj<|AX<|Af z z<|Be z z z<|Ae z z<|Ab<|An (l':=[(1,u2),(3,(ptr b1 0)),(5,(ptr b2 0)),(7,(I (w64 (x1+1))))]) ⟨z,z,z,z,Ah⟩<|⟨k1,Az _,w64 (x1+1),z,(((Ap hB3).then hB4).then hB6).below,hC5,hL1⟩
   replace hL1:=AA hL1 hc2
   refine Bm (A2 (A2 (AT ?_)))
   obtain rfl:=Aa hL1
   have hC6:=hC3.h0
   exact An (l':=[]) Ah<|⟨z,z,(Ap hB3).below,hC6⟩
 rintro l2 _ w7 hs2 ⟨rfl,rfl,hB7,hC7⟩
 try dsimp only at hF
 refine AO hs2 ?_
 clear hs2
 refine Ac<|Ae z z<|Ab<|AC<|?_
 obtain rfl:=Aa hF
 exact Ay z z<|⟨_,z,AD hC7 _⟩
theorem c_S_FitsSelf {w0:World} (a1:(List Int)) (u1:Value) (g1:RO [] w0 u1 a1) (a2:(List (Int × (List Int) × Int × Int × Int))) (u2:Value) (g2:RO [] w0 u2 a2) (a3:((Int × (List Int)) × (List (Int × (List Int))))) (u3:Value) (g3:RO [] w0 u3 a3.1.2) (u4:Value) (g4:RO [] w0 u4 a3.2) (rr:Bool) (hF:S.FitsSelf a1 a2 a3=some rr) :
 Calls Tryz.prog 106 [u1,u2,(.agg #[(I a3.1.1),u3,u4])].toArray w0 fun e w'=>∃v,e=.returned v∧Res w0 rr v w':=by
 refine Aw Tryz.func106 z z ?_
 have hC0:=A1 w0
 unfold S.FitsSelf at hF
 refine Ac<|Bb (cs:=[(I a3.1.1),u3,u4]) hC0 z z z fun b1 w1 hC1 hB1 hN1=>Ae z z<|Ab<|A0<|Ac<|Af z z<|Af z z<|A4 [(I a3.1.1),u3,u4] hC1 0 z z z BF B3 z z<|be hF fun x1 hr1 hF=>cb Tryz.call159 z z (c_S_IsTold a1 u1 (g1.now hC1.keep) a2 u2 (g2.now hC1.keep) ((a3.1.1,a3.1.2),a3.2) u3 (g3.now hC1.keep) u4 (g4.now hC1.keep) x1 hr1) fun w2 hB2=>have hC2:=hC1.grow hB2;Bw z z<|Ab<|A7 z (fun hc1=>?_) (fun hc1=>?_)
 ·replace hF:=A9 hF hc1
  refine Ac<|Ae z z<|Ab<|AC<|Ar<|?_
  obtain rfl:=Aa hF
  exact Ay z z<|⟨_,z,AD hC2 _⟩
 replace hF:=AA hF hc1
 refine A6<|Aj<|Ac<|Af z z<|fd AQ Bu z z z z<|fd Bd A5 z z z z<|Al hC2 0 z z AV z z<|be hF fun x2 hx1 hF=>AE Bi ty110 g2 hx1 z z z fun b2 o1 h1=>AH ty110 h1 hC2.keep z z fun v1 h2=>?_
 obtain ⟨v2,rfl,h3⟩:=CX h2
 refine B0 hC2 zero110 z z fun b3 w3 hC3 hB3 hN2=>AS (cs':=[(I x2.1),v2,(I x2.2.2.1),(I x2.2.2.2.1),(I x2.2.2.2.2)]) (new:=[(I x2.1),v2,(I x2.2.2.1),(I x2.2.2.2.1),(I x2.2.2.2.2)]) hC3 0 z z (fac z<|fac (B1 h3)<|fac z<|fac z<|fac z<|fa0) z BT z z fun w4 hC4 hKp1=>?_
 try dsimp only [List.set] at hC4
 have hk1:=AI (((Ap hB1).then hB2).then hB3) (AM ((Ap hB1).then hB2).size hN2) hKp1
 have hk2:=AI ((Ap hB2).then hB3) (AM (Ap hB2).size hN2) hKp1
 have hk3:=AI (Ap hB3) hN2 hKp1
 refine Ab<|A0<|Ac<|Ae z z<|Ab<|be hF fun r1 hr2 hF=>Bf (fun l w=>.inl ()=r1∧l=[(5,(ptr b1 0)),(7,(ptr b3 0))]∧Below w4.heap.size w4 w∧Ctx [] w0 w [Ai b3 [(I x2.1),v2,(I x2.2.2.1),(I x2.2.2.2.1),(I x2.2.2.2.2)],Ai b1 [(I a3.1.1),u3,u4]]) ?_ ?_
 ·refine AB<|wS (l':=[(5,(ptr b1 0)),(7,(ptr b3 0)),(8,(I 0))]) ⟨z,z,z,Ah⟩<|Bo (fun k l w=>∃x3:Int,l=[(5,(ptr b1 0)),(7,(ptr b3 0)),(8,(I x3))]∧Below w4.heap.size w4 w∧Ctx [] w0 w [Ai b3 [(I x2.1),v2,(I x2.2.2.1),(I x2.2.2.2.1),(I x2.2.2.2.2)],Ai b1 [(I a3.1.1),u3,u4]]∧S.FitsSelf_l1 a3 x2 k x3=some r1) FUEL ⟨0,z,(Am _ _),hC4,hr2⟩<|?_
  clear hr2
  rintro k1 _ w5 ⟨x3,rfl,hB4,hC5,hL1⟩
  cases k1 with
  | zero=>rw [S.FitsSelf_l1] at hL1; cases hL1
  | succ k1 =>
   rw [S.FitsSelf_l1] at hL1
   refine A0<|Ac<|Af z z<|fd AQ Bx z z z z<|Al hC5 1 z z B9 z z<|AL Ao g4 z z<|AW z z z<|Ab<|A7 z (fun hc2=>?_) (fun hc2=>?_)
   ·replace hL1:=A9 hL1 hc2
    refine A6<|Aj<|A0<|AB<|A0<|W_drawn 11 z hmix fun w6 hB5=>have hC6:=hC5.grow hB5;tf 1 AQ Bu z z z z z<|tf 2 Bd Au z z z z z<|tf 4 AQ Bx z z z z z<|tm 6 z z z<|be hL1 fun x4 hx2 hL1=>wAS (l':=[(5,(ptr b1 0)),(7,(ptr b3 0)),(8,(I x3)),(20,(I x3)),(21,(ptr b1 2)),(22,u4),(23,(I (List.length a3.2:Int))),(24,(.bool (decide (x3 < (List.length a3.2:Int))))),(28,(ptr b1 0)),(29,(ptr b1 1)),(31,(ptr b1 2)),(33,(I x3))]) ⟨z,z,z,z,z,z,z,z,z,z,z,z,Ah⟩<|Bq [⟨0,[],fun vs=>Bg (.agg #[(I x2.1),v2,(I x2.2.2.1),(I x2.2.2.2.1),(I x2.2.2.2.2)]),[]⟩,⟨3,[],fun vs=>Bg u3,[]⟩,⟨5,[],fun vs=>Bg u4,[]⟩,⟨7,[],fun vs=>Cj [] w0 x4,[]⟩,⟨8,[],fun vs=>Cc [] w0 x4,[]⟩] [[],[],[],[5],[7]] 2 z (by kernel_rfl) (by kernel_rfl) z ?_ ?_
    ·refine Aq z ?_ ?_
     ·intro w7 hB6
      refine Ax<|⟨_,z,?_⟩
      exact A4 [(I x2.1),v2,(I x2.2.2.1),(I x2.2.2.2.1),(I x2.2.2.2.2)] (hC6.grow hB6) 0 z z z Cx BT z z<|Ab<|A3 (Am _ _) z z ⟨z,z⟩
     refine Aq z ?_ ?_
     ·intro w7 hB6
      refine Ax<|⟨_,z,?_⟩
      exact Al (hC6.grow hB6) 1 z z At z z<|Ab<|A3 (Am _ _) z z ⟨z,z⟩
     refine Aq z ?_ ?_
     ·intro w7 hB6
      refine Ax<|⟨_,z,?_⟩
      exact Al (hC6.grow hB6) 1 z z B9 z z<|Ab<|A3 (Am _ _) z z ⟨z,z⟩
     refine Aq z ?_ ?_
     ·intro w7 hB6
      refine AN z z z ?_
      rintro _ _ ⟨rfl,rfl⟩ _
      refine Ax<|⟨_,z,?_⟩
      exact AE Ao ty77 g4 hx2 z z z fun b4 o2 h4=>Ab<|A3 (Am _ _) z z ⟨z,_,_,z,h4⟩
     refine Aq z ?_ ?_
     ·intro w7 hB6
      refine AN z z z ?_
      rintro _ _ ⟨rfl,b4,o2,rfl,h4⟩ _
      refine Ax<|⟨_,z,?_⟩
      exact AH ty77 h4 (hC6.keep.then hB6) z z fun v5 h7=>Ab<|A3 (Am _ _) z z ⟨z,h7⟩
     exact Bl
    intro w9 hB7
    refine Av z z z ?_
    rintro _ _ ⟨rfl,rfl⟩
    refine Av z z z ?_
    rintro _ _ ⟨rfl,rfl⟩
    refine Av z z z ?_
    rintro _ _ ⟨rfl,rfl⟩
    refine Av z z z ?_
    rintro _ _ ⟨rfl,b4,o2,rfl,h4⟩
    refine Av z z z ?_
    rintro v5 _ ⟨rfl,h7⟩
    obtain ⟨v4,rfl,h6⟩:=BM h7
    refine Bv fun hn1 hb1=>have hC7:=hC6.grow hB7;be hL1 fun x5 hr3 hL1=>oe 9 z<|cb Tryz.call160 z z (c_S_l5Fits (x2.1,x2.2.1,x2.2.2.1,x2.2.2.2.1,x2.2.2.2.2) v2 (h3.now hC7.keep) a3.1.2 u3 (g3.now hC7.keep) x4 v4 (h6.now hC7.keep) x5 hr3) fun w10 hB8=>have hC8:=hC7.grow hB8;Ab<|tk 10 z z (Cs z)<|Bw z z<|Ab<|dn<|Aj<|A7 z (fun hc3=>?_) (fun hc3=>?_)
    ·replace hL1:=A9 hL1 hc3
     refine Ac<|Ae z z<|Ab<|AC<|AU<|Ar<|Ar<|AU<|Ar<|Ar<|?_
     obtain rfl:=Aa hL1
     dsimp only at hF
     obtain rfl:=Aa hF
     exact Ay z z<|⟨_,z,AD hC8 _⟩
    replace hL1:=AA hL1 hc3
    exact A6<|AJ<|Aj<|AX<|Af z z<|Be z z z<|Ae z z<|Ab<|An (l':=[(5,(ptr b1 0)),(7,(ptr b3 0)),(8,(I (w64 (x3+1))))]) ⟨z,z,z,Ah⟩<|⟨k1,Az _,w64 (x3+1),z,((((Ap hB4).then hB5).then hB7).then hB8).below,hC8,hL1⟩
   replace hL1:=AA hL1 hc2
   refine Bm (A2 (A2 (AT ?_)))
   obtain rfl:=Aa hL1
   exact An (l':=[(5,(ptr b1 0)),(7,(ptr b3 0))]) ⟨z,z,Ah⟩<|⟨z,z,(Ap hB4).below,hC5⟩
 rintro l2 _ w11 hs2 ⟨rfl,rfl,hB9,hC9⟩
 try dsimp only at hF
 refine AO hs2 ?_
 clear hs2
 refine be hF fun r2 hr4 hF=>BH (fun l w=>∃x6:Bool,x6=r2∧l=[(6,(.bool x6))]∧Below w11.heap.size w11 w∧Ctx [] w0 w []) ?_ ?_
 ·refine AX<|fd AK A5 z z z z<|Al hC9 0 z z AV z z<|Ca z z z<|Af z z<|Bz (fun hc4=>?_) (fun hc4=>?_)
  ·replace hr4:=A9 hr4 hc4
   refine gs z z z z<|gs z z z z<|gs z z z z<|gs z z z z<|gs z z z z<|gs z z z z<|Ba z z z<|Ae z z<|Ab<|?_
   obtain rfl:=Aa hr4
   have hC11:=hC9.h0
   exact An (l':=[(6,(.bool true))]) ⟨z,Ah⟩<|⟨true,z,z,(Am _ _),hC11⟩
  replace hr4:=AA hr4 hc4
  refine Ak z z<|fd AQ Bx z z z z<|Ak z z<|Al hC9 1 z z B9 z z<|Ak z z<|AL Ao g4 z z<|Ak z z<|fd AK A5 z z z z<|Ak z z<|Al hC9 0 z z AV z z<|Ak z z<|CQ z z z<|AY z z z<|Ae z z<|Ab<|?_
  obtain rfl:=Aa hr4
  have hC12:=hC9.h0
  exact An (l':=[(6,(.bool (decide ((List.length a3.2:Int) ≤ x2.2.2.1))))]) ⟨z,Ah⟩<|⟨(decide ((List.length a3.2:Int) ≤ x2.2.2.1)),z,z,(Am _ _),hC12⟩
 rintro _ w12 ⟨x6,rfl,rfl,hB10,hC10⟩
 try dsimp only at hF
 refine AC ?_
 obtain rfl:=Aa hF
 exact Ay z z<|⟨_,z,AD hC10 _⟩
theorem c_S_HasFact {w0:World} (a1:(List (Int × (List Int)))) (u1:Value) (g1:RO [] w0 u1 a1) (a2:(Int × (List Int))) (u2:Value) (g2:RO [] w0 u2 a2.2) (rr:Bool) (hF:S.HasFact a1 a2=some rr) :
 Calls Tryz.prog 54 [u1,(.agg #[(I a2.1),u2])].toArray w0 fun e w'=>∃v,e=.returned v∧Res w0 rr v w':=by
 refine Aw Tryz.func54 z z ?_
 have hC0:=A1 w0
 unfold S.HasFact at hF
 refine Ac<|Bb (cs:=[(I a2.1),u2]) hC0 z z z fun b1 w1 hC1 hB1 hN1=>Ae z z<|Ab<|A0<|Ac<|Ae z z<|Ab<|be hF fun r1 hr1 hF=>Bf (fun l w=>.inl ()=r1∧l=[]∧Below w1.heap.size w1 w∧Ctx [] w0 w []) ?_ ?_
 ·refine AB<|wS (l':=[(0,u1),(3,(ptr b1 0)),(5,(I 0))]) ⟨z,z,z,Ah⟩<|Bo (fun k l w=>∃x1:Int,l=[(0,u1),(3,(ptr b1 0)),(5,(I x1))]∧Below w1.heap.size w1 w∧Ctx [] w0 w [Ai b1 [(I a2.1),u2]]∧S.HasFact_l1 a1 a2 k x1=some r1) FUEL ⟨0,z,(Am _ _),hC1,hr1⟩<|?_
  clear hr1
  rintro k1 _ w2 ⟨x1,rfl,hB2,hC2,hL1⟩
  cases k1 with
  | zero=>rw [S.HasFact_l1] at hL1; cases hL1
  | succ k1 =>
   rw [S.HasFact_l1] at hL1
   refine A0<|Ac<|Af z z<|Af z z<|AL Ao g1 z z<|AW z z z<|Ab<|A7 z (fun hc1=>?_) (fun hc1=>?_)
   ·replace hL1:=A9 hL1 hc1
    refine A6<|Aj<|A0<|AB<|A0<|W_drawn 7 z hmix fun w3 hB3=>have hC3:=hC2.grow hB3;tm 0 z z z<|tm 1 z z z<|be hL1 fun x2 hx1 hL1=>tk 2 z z (B8 Ao ty77 g1 hx1 z z)<|AE Ao ty77 g1 hx1 z z z fun b2 o1 h1=>Ab<|wAS (l':=[(0,u1),(3,(ptr b1 0)),(5,(I x1)),(6,(I x1)),(7,u1),(8,(I (List.length a1:Int))),(9,(.bool (decide (x1 < (List.length a1:Int))))),(12,u1),(13,(I x1)),(14,(ptr b2 o1))]) ⟨z,z,z,z,z,z,z,z,z,z,Ah⟩<|Bq [⟨3,[],fun vs=>Cc [] w0 x2,[]⟩,⟨4,[],fun vs=>Bg (.agg #[(I a2.1),u2]),[]⟩] [[],[]] 2 z (by kernel_rfl) (by kernel_rfl) z ?_ ?_
    ·refine Aq z ?_ ?_
     ·intro w4 hB4
      refine Ax<|⟨_,z,?_⟩
      exact AH ty77 h1 (hC3.keep.then hB4) z z fun v3 h4=>Ab<|A3 (Am _ _) z z ⟨z,h4⟩
     refine Aq z ?_ ?_
     ·intro w4 hB4
      refine Ax<|⟨_,z,?_⟩
      exact A4 [(I a2.1),u2] (hC3.grow hB4) 0 z z z B4 Br z z<|Ab<|A3 (Am _ _) z z ⟨z,z⟩
     exact Bl
    intro w5 hB5
    refine Av z z z ?_
    rintro v3 _ ⟨rfl,h4⟩
    obtain ⟨v2,rfl,h3⟩:=BM h4
    refine Av z z z ?_
    rintro _ _ ⟨rfl,rfl⟩
    refine Bv fun hn1 hb1=>have hC4:=hC3.grow hB5;be hL1 fun x3 hr2 hL1=>oe 5 z<|ci Tryz.call53 z z (c_S_CompareFacts x2 v2 (h3.now hC4.keep) (a2.1,a2.2) u2 (g2.now hC4.keep) x3 hr2) fun w6 hB6=>have hC5:=hC4.grow hB6;Ab<|tk 6 z z (Dy z z)<|Ca z z z<|Ab<|dn<|Aj<|A7 z (fun hc2=>?_) (fun hc2=>?_)
    ·replace hL1:=A9 hL1 hc2
     refine Ac<|Ae z z<|Ab<|AC<|AU<|Ar<|Ar<|AU<|Ar<|Ar<|?_
     obtain rfl:=Aa hL1
     dsimp only at hF
     obtain rfl:=Aa hF
     exact Ay z z<|⟨_,z,AD hC5 _⟩
    replace hL1:=AA hL1 hc2
    exact A6<|AJ<|Aj<|AX<|Af z z<|Be z z z<|Ae z z<|Ab<|An (l':=[(0,u1),(3,(ptr b1 0)),(5,(I (w64 (x1+1))))]) ⟨z,z,z,Ah⟩<|⟨k1,Az _,w64 (x1+1),z,((((Ap hB2).then hB3).then hB5).then hB6).below,hC5,hL1⟩
   replace hL1:=AA hL1 hc1
   refine Bm (A2 (A2 (AT ?_)))
   obtain rfl:=Aa hL1
   have hC6:=hC2.h0
   exact An (l':=[]) Ah<|⟨z,z,(Ap hB2).below,hC6⟩
 rintro l2 _ w7 hs2 ⟨rfl,rfl,hB7,hC7⟩
 try dsimp only at hF
 refine AO hs2 ?_
 clear hs2
 refine Ac<|Ae z z<|Ab<|AC<|?_
 obtain rfl:=Aa hF
 exact Ay z z<|⟨_,z,AD hC7 _⟩
theorem c_S_l28Lacks {w0:World} (a1:(List (Int × (List Int) × Int × Int × Int))) (u1:Value) (g1:RO [] w0 u1 a1) (a2:((Int × (List Int)) × (List (Int × (List Int))))) (u2:Value) (g2:RO [] w0 u2 a2.1.2) (u3:Value) (g3:RO [] w0 u3 a2.2) (a3:((Int × (List Int)) × (List (Int × (List Int))))) (u4:Value) (g4:RO [] w0 u4 a3.1.2) (u5:Value) (g5:RO [] w0 u5 a3.2) (rr:Bool) (hF:S.l28Lacks a1 a2 a3=some rr) :
 Calls Tryz.prog 161 [u1,(.agg #[(I a2.1.1),u2,u3]),(.agg #[(I a3.1.1),u4,u5])].toArray w0 fun e w'=>∃v,e=.returned v∧Res w0 rr v w':=by
 refine Aw Tryz.func161 z z ?_
 have hC0:=A1 w0
 unfold S.l28Lacks at hF
 refine Ac<|Bb (cs:=[(I a2.1.1),u2,u3]) hC0 z z z fun b1 w1 hC1 hB1 hN1=>Bb (cs:=[(I a3.1.1),u4,u5]) hC1 z z z fun b2 w2 hC2 hB2 hN2=>Ae z z<|Ab<|Ac<|Af z z<|fd AQ Bu z z z z<|fd Bd A5 z z z z<|Al hC2 0 z z AV z z<|be hF fun x1 hx1 hF=>AE Bi ty110 g1 hx1 z z z fun b3 o1 h1=>AH ty110 h1 hC2.keep z z fun v1 h2=>?_
 obtain ⟨v2,rfl,h3⟩:=CX h2
 refine B0 hC2 zero110 z z fun b4 w3 hC3 hB3 hN3=>AS (cs':=[(I x1.1),v2,(I x1.2.2.1),(I x1.2.2.2.1),(I x1.2.2.2.2)]) (new:=[(I x1.1),v2,(I x1.2.2.1),(I x1.2.2.2.1),(I x1.2.2.2.2)]) hC3 0 z z (fac z<|fac (B1 h3)<|fac z<|fac z<|fac z<|fa0) z BT z z fun w4 hC4 hKp1=>?_
 try dsimp only [List.set] at hC4
 have hk1:=AI (((Ap hB1).then hB2).then hB3) (AM ((Ap hB1).then hB2).size hN3) hKp1
 have hk2:=AI ((Ap hB2).then hB3) (AM (Ap hB2).size hN3) hKp1
 have hk3:=AI (Ap hB3) hN3 hKp1
 refine Ab<|A0<|Ac<|Ae z z<|Ab<|be hF fun r1 hr1 hF=>Bf (fun l w=>.inl ()=r1∧l=[]∧Below w4.heap.size w4 w∧Ctx [] w0 w []) ?_ ?_
 ·refine AB<|wS (l':=[(4,(ptr b1 0)),(5,(ptr b2 0)),(7,(ptr b4 0)),(8,(I 0))]) ⟨z,z,z,z,Ah⟩<|Bo (fun k l w=>∃x2:Int,l=[(4,(ptr b1 0)),(5,(ptr b2 0)),(7,(ptr b4 0)),(8,(I x2))]∧Below w4.heap.size w4 w∧Ctx [] w0 w [Ai b4 [(I x1.1),v2,(I x1.2.2.1),(I x1.2.2.2.1),(I x1.2.2.2.2)],Ai b2 [(I a3.1.1),u4,u5],Ai b1 [(I a2.1.1),u2,u3]]∧S.l28Lacks_l1 a2 x1 a3 k x2=some r1) FUEL ⟨0,z,(Am _ _),hC4,hr1⟩<|?_
  clear hr1
  rintro k1 _ w5 ⟨x2,rfl,hB4,hC5,hL1⟩
  cases k1 with
  | zero=>rw [S.l28Lacks_l1] at hL1; cases hL1
  | succ k1 =>
   rw [S.l28Lacks_l1] at hL1
   refine A0<|Ac<|Af z z<|fd AQ Bx z z z z<|Al hC5 2 z z B9 z z<|AL Ao g3 z z<|AW z z z<|Ab<|A7 z (fun hc1=>?_) (fun hc1=>?_)
   ·replace hL1:=A9 hL1 hc1
    refine A6<|Aj<|A0<|AB<|be hL1 fun r2 hr2 hL1=>BH (fun l w=>∃x3:Bool,x3=r2∧l=[(4,(ptr b1 0)),(5,(ptr b2 0)),(7,(ptr b4 0)),(8,(I x2)),(55,(.bool x3))]∧Below w5.heap.size w5 w∧Ctx [] w0 w [Ai b4 [(I x1.1),v2,(I x1.2.2.1),(I x1.2.2.2.1),(I x1.2.2.2.2)],Ai b2 [(I a3.1.1),u4,u5],Ai b1 [(I a2.1.1),u2,u3]]) ?_ ?_
    ·refine W_drawn 34 z hmix fun w7 hB6=>have hC7:=hC5.grow hB6;tf 1 AQ Bu z z z z z<|tf 2 Bd Au z z z z z<|tf 4 AQ Bx z z z z z<|tm 6 z z z<|be hr2 fun x4 hx2 hr2=>wAS (l':=[(4,(ptr b1 0)),(5,(ptr b2 0)),(7,(ptr b4 0)),(8,(I x2)),(15,(I x2)),(16,(ptr b1 2)),(17,u3),(18,(I (List.length a2.2:Int))),(19,(.bool (decide (x2 < (List.length a2.2:Int))))),(23,(ptr b2 0)),(24,(ptr b2 1)),(26,(ptr b1 2)),(28,(I x2))]) ⟨z,z,z,z,z,z,z,z,z,z,z,z,z,Ah⟩<|Bq [⟨0,[],fun vs=>Bg (.agg #[(I x1.1),v2,(I x1.2.2.1),(I x1.2.2.2.1),(I x1.2.2.2.2)]),[]⟩,⟨3,[],fun vs=>Bg u4,[]⟩,⟨5,[],fun vs=>Bg u3,[]⟩,⟨7,[],fun vs=>Cj [] w0 x4,[]⟩,⟨8,[],fun vs=>Cc [] w0 x4,[]⟩] [[],[],[],[5],[7]] 25 z (by kernel_rfl) (by kernel_rfl) z ?_ ?_
     ·refine Aq z ?_ ?_
      ·intro w9 hB7
       refine Ax<|⟨_,z,?_⟩
       exact A4 [(I x1.1),v2,(I x1.2.2.1),(I x1.2.2.2.1),(I x1.2.2.2.2)] (hC7.grow hB7) 0 z z z Cx BT z z<|Ab<|A3 (Am _ _) z z ⟨z,z⟩
      refine Aq z ?_ ?_
      ·intro w9 hB7
       refine Ax<|⟨_,z,?_⟩
       exact Al (hC7.grow hB7) 1 z z At z z<|Ab<|A3 (Am _ _) z z ⟨z,z⟩
      refine Aq z ?_ ?_
      ·intro w9 hB7
       refine Ax<|⟨_,z,?_⟩
       exact Al (hC7.grow hB7) 2 z z B9 z z<|Ab<|A3 (Am _ _) z z ⟨z,z⟩
      refine Aq z ?_ ?_
      ·intro w9 hB7
       refine AN z z z ?_
       rintro _ _ ⟨rfl,rfl⟩ _
       refine Ax<|⟨_,z,?_⟩
       exact AE Ao ty77 g3 hx2 z z z fun b5 o2 h4=>Ab<|A3 (Am _ _) z z ⟨z,_,_,z,h4⟩
      refine Aq z ?_ ?_
      ·intro w9 hB7
       refine AN z z z ?_
       rintro _ _ ⟨rfl,b5,o2,rfl,h4⟩ _
       refine Ax<|⟨_,z,?_⟩
       exact AH ty77 h4 (hC7.keep.then hB7) z z fun v5 h7=>Ab<|A3 (Am _ _) z z ⟨z,h7⟩
      exact Bl
     intro w10 hB8
     refine Av z z z ?_
     rintro _ _ ⟨rfl,rfl⟩
     refine Av z z z ?_
     rintro _ _ ⟨rfl,rfl⟩
     refine Av z z z ?_
     rintro _ _ ⟨rfl,rfl⟩
     refine Av z z z ?_
     rintro _ _ ⟨rfl,b5,o2,rfl,h4⟩
     refine Av z z z ?_
     rintro v5 _ ⟨rfl,h7⟩
     obtain ⟨v4,rfl,h6⟩:=BM h7
     refine Bv fun hn1 hb1=>have hC8:=hC7.grow hB8;be hr2 fun x5 hr3 hr2=>oe 9 z<|cb Tryz.call160 z z (c_S_l5Fits (x1.1,x1.2.1,x1.2.2.1,x1.2.2.2.1,x1.2.2.2.2) v2 (h3.now hC8.keep) a3.1.2 u4 (g4.now hC8.keep) x4 v4 (h6.now hC8.keep) x5 hr3) fun w11 hB9=>have hC9:=hC8.grow hB9;Ab<|tm 10 z z z<|BP (fun hc2=>?_) (fun hc2=>?_)
     ·replace hr2:=A9 hr2 hc2
      refine tg 11 z z z z (BG AQ z z (fun w=>⟨_,Bx w⟩) z)<|Ak z z<|fd AQ Bx z z z z<|Ab<|tg 13 z z z z (BG AQ z z (fun w=>⟨_,Bx w⟩) z)<|Ak z z<|fd AQ Bx z z z z<|Ab<|tn 15 z z z z z<|be hr2 fun x6 hx3 hr2=>wAS (l':=[(4,(ptr b1 0)),(5,(ptr b2 0)),(7,(ptr b4 0)),(8,(I x2)),(15,(I x2)),(16,(ptr b1 2)),(17,u3),(18,(I (List.length a2.2:Int))),(19,(.bool (decide (x2 < (List.length a2.2:Int))))),(22,(.agg #[(I x1.1),v2,(I x1.2.2.1),(I x1.2.2.2.1),(I x1.2.2.2.2)])),(23,(ptr b2 0)),(24,(ptr b2 1)),(25,u4),(26,(ptr b1 2)),(27,u3),(28,(I x2)),(29,(ptr b5 o2)),(30,(.agg #[(I x4.1),v4])),(31,(.bool x5)),(32,(.bool true)),(33,(ptr b2 2)),(35,(ptr b1 2)),(37,(I x2))]) ⟨z,z,z,z,z,z,z,z,z,z,z,z,z,z,z,z,z,z,z,z,z,z,z,Ah⟩<|Bq [⟨12,[],fun vs=>Bg u5,[]⟩,⟨14,[],fun vs=>Bg u3,[]⟩,⟨16,[],fun vs=>Cj [] w0 x6,[]⟩,⟨17,[],fun vs=>Cc [] w0 x6,[]⟩] [[],[],[14],[16]] 16 z (by kernel_rfl) (by kernel_rfl) z ?_ ?_
      ·refine Aq z ?_ ?_
       ·intro w12 hB10
        refine Ax<|⟨_,z,?_⟩
        exact Ak z z<|Al (hC9.grow hB10) 1 z z B9 z z<|Ab<|A3 (Am _ _) z z ⟨z,z⟩
       refine Aq z ?_ ?_
       ·intro w12 hB10
        refine Ax<|⟨_,z,?_⟩
        exact Ak z z<|Al (hC9.grow hB10) 2 z z B9 z z<|Ab<|A3 (Am _ _) z z ⟨z,z⟩
       refine Aq z ?_ ?_
       ·intro w12 hB10
        refine AN z z z ?_
        rintro _ _ ⟨rfl,rfl⟩ _
        refine Ax<|⟨_,z,?_⟩
        exact Ak z z<|AE Ao ty77 g3 hx3 z z z fun b6 o3 h8=>Ab<|A3 (Am _ _) z z ⟨z,_,_,z,h8⟩
       refine Aq z ?_ ?_
       ·intro w12 hB10
        refine AN z z z ?_
        rintro _ _ ⟨rfl,b6,o3,rfl,h8⟩ _
        refine Ax<|⟨_,z,?_⟩
        exact Ak z z<|AH ty77 h8 (hC9.keep.then hB10) z z fun v8 h11=>Ab<|A3 (Am _ _) z z ⟨z,h11⟩
       exact Bl
      intro w13 hB11
      refine Av z z z ?_
      rintro _ _ ⟨rfl,rfl⟩
      refine Av z z z ?_
      rintro _ _ ⟨rfl,rfl⟩
      refine Av z z z ?_
      rintro _ _ ⟨rfl,b6,o3,rfl,h8⟩
      refine Av z z z ?_
      rintro v8 _ ⟨rfl,h11⟩
      obtain ⟨v7,rfl,h10⟩:=BM h11
      refine Bv fun hn2 hb2=>have hC10:=hC9.grow hB11;be hr2 fun x7 hr4 hr2=>oe 18 z<|Ak z z<|cb Tryz.call54 z z (c_S_HasFact a3.2 u5 (g5.now hC10.keep) x6 v7 (h10.now hC10.keep) x7 hr4) fun w14 hB12=>have hC11:=hC10.grow hB12;Ab<|tg 19 z z z z (Cs z)<|Ak z z<|Bw z z<|Ab<|tp 20 z z z z<|tm 21 z z z<|BP (fun hc3=>?_) (fun hc3=>?_)
      ·replace hr2:=A9 hr2 hc3
       refine tg 22 z z z z (BG AK z z (fun w=>⟨_,A5 w⟩) z)<|Ak z z<|fd AK A5 z z z z<|Ab<|oe 23 z<|Ak z z<|Al hC11 0 z z AV z z<|Ab<|tg 24 z z z z (Dy z z)<|Ak z z<|Ca z z z<|Ab<|tn 25 z z z z z<|BP (fun hc4=>?_) (fun hc4=>?_)
       ·replace hr2:=A9 hr2 hc4
        refine sk 26 z z z z z<|sk 27 z z z z z<|sk 28 z z z z z<|sk 29 z z z z z<|sk 30 z z z z z<|sk 31 z z z z z<|tg 32 z z z z (Ds z z)<|Ak z z<|Ba z z z<|Ab<|tp 33 z z z z<|dn<|?_
        obtain rfl:=Aa hr2
        exact An (l':=[(4,(ptr b1 0)),(5,(ptr b2 0)),(7,(ptr b4 0)),(8,(I x2)),(55,(.bool true))]) ⟨z,z,z,z,z,Ah⟩<|⟨true,z,z,(((((Ap hB6).then hB8).then hB9).then hB11).then hB12).below,hC11⟩
       replace hr2:=AA hr2 hc4
       refine tg 26 z z z z (BG AQ z z (fun w=>⟨_,Bx w⟩) z)<|Ak z z<|fd AQ Bx z z z z<|Ab<|tg 29 z z z z (BG AK z z (fun w=>⟨_,A5 w⟩) z)<|Ak z z<|fd AK A5 z z z z<|Ab<|wAS (l':=[(4,(ptr b1 0)),(5,(ptr b2 0)),(7,(ptr b4 0)),(8,(I x2)),(15,(I x2)),(16,(ptr b1 2)),(17,u3),(18,(I (List.length a2.2:Int))),(19,(.bool (decide (x2 < (List.length a2.2:Int))))),(22,(.agg #[(I x1.1),v2,(I x1.2.2.1),(I x1.2.2.2.1),(I x1.2.2.2.2)])),(23,(ptr b2 0)),(24,(ptr b2 1)),(25,u4),(26,(ptr b1 2)),(27,u3),(28,(I x2)),(29,(ptr b5 o2)),(30,(.agg #[(I x4.1),v4])),(31,(.bool x5)),(32,(.bool true)),(33,(ptr b2 2)),(34,u5),(35,(ptr b1 2)),(36,u3),(37,(I x2)),(38,(ptr b6 o3)),(39,(.agg #[(I x6.1),v7])),(40,(.bool x7)),(41,(.bool (!x7))),(42,(.bool (!x7))),(43,(.bool true)),(44,(ptr b4 2)),(45,(I x1.2.2.1)),(46,(.bool (decide (x1.2.2.1=0)))),(47,(.bool false)),(48,(ptr b2 2)),(51,(ptr b4 2))]) ⟨z,z,z,z,z,z,z,z,z,z,z,z,z,z,z,z,z,z,z,z,z,z,z,z,z,z,z,z,z,z,z,z,z,z,z,z,z,Ah⟩<|Bq [⟨27,[],fun vs=>Bg u5,[]⟩,⟨28,[],fun vs=>Bg (I (List.length a3.2:Int)),[]⟩,⟨30,[],fun vs=>Bg (I x1.2.2.1),[]⟩] [[],[27],[]] 3 z (by kernel_rfl) (by kernel_rfl) z ?_ ?_
       ·refine Aq z ?_ ?_
        ·intro w15 hB13
         refine Ax<|⟨_,z,?_⟩
         exact Ak z z<|Al (hC11.grow hB13) 1 z z B9 z z<|Ab<|A3 (Am _ _) z z ⟨z,z⟩
        refine Aq z ?_ ?_
        ·intro w15 hB13
         refine AN z z z ?_
         rintro _ _ ⟨rfl,rfl⟩ _
         refine Ax<|⟨_,z,?_⟩
         exact Ak z z<|AL Ao g5 z z<|Ab<|A3 (Am _ _) z z ⟨z,z⟩
        refine Aq z ?_ ?_
        ·intro w15 hB13
         refine Ax<|⟨_,z,?_⟩
         exact Ak z z<|Al (hC11.grow hB13) 0 z z AV z z<|Ab<|A3 (Am _ _) z z ⟨z,z⟩
        exact Bl
       intro w16 hB14
       refine Av z z z ?_
       rintro _ _ ⟨rfl,rfl⟩
       refine Av z z z ?_
       rintro _ _ ⟨rfl,rfl⟩
       refine Av z z z ?_
       rintro _ _ ⟨rfl,rfl⟩
       refine Bv fun hn3 hb3=>have hC12:=hC11.grow hB14;tg 31 z z z z (fl_lss z z)<|Ak z z<|AW z z z<|Ab<|tg 32 z z z z (Dt z z)<|Ak z z<|AY z z z<|Ab<|tp 33 z z z z<|dn<|?_
       obtain rfl:=Aa hr2
       exact An (l':=[(4,(ptr b1 0)),(5,(ptr b2 0)),(7,(ptr b4 0)),(8,(I x2)),(55,(.bool (decide ((List.length a3.2:Int) < x1.2.2.1))))]) ⟨z,z,z,z,z,Ah⟩<|⟨(decide ((List.length a3.2:Int) < x1.2.2.1)),z,z,((((((Ap hB6).then hB8).then hB9).then hB11).then hB12).then hB14).below,hC12⟩
      replace hr2:=AA hr2 hc3
      refine sk 22 z z z z z<|sk 23 z z z z z<|sk 24 z z z z z<|sk 25 z z z z z<|sk 26 z z z z z<|sk 27 z z z z z<|sk 28 z z z z z<|sk 29 z z z z z<|sk 30 z z z z z<|sk 31 z z z z z<|sk 32 z z z z z<|tq 33 z z z z<|dn<|?_
      obtain rfl:=Aa hr2
      exact An (l':=[(4,(ptr b1 0)),(5,(ptr b2 0)),(7,(ptr b4 0)),(8,(I x2)),(55,(.bool false))]) ⟨z,z,z,z,z,Ah⟩<|⟨false,z,z,(((((Ap hB6).then hB8).then hB9).then hB11).then hB12).below,hC11⟩
     replace hr2:=AA hr2 hc2
     refine sk 11 z z z z z<|sk 12 z z z z z<|sk 13 z z z z z<|sk 14 z z z z z<|sk 15 z z z z z<|sk 16 z z z z z<|sk 17 z z z z z<|sk 18 z z z z z<|sk 19 z z z z z<|tq 20 z z z z<|tm 21 z z z<|sk 22 z z z z z<|sk 23 z z z z z<|sk 24 z z z z z<|sk 25 z z z z z<|sk 26 z z z z z<|sk 27 z z z z z<|sk 28 z z z z z<|sk 29 z z z z z<|sk 30 z z z z z<|sk 31 z z z z z<|sk 32 z z z z z<|tq 33 z z z z<|dn<|?_
     obtain rfl:=Aa hr2
     exact An (l':=[(4,(ptr b1 0)),(5,(ptr b2 0)),(7,(ptr b4 0)),(8,(I x2)),(55,(.bool false))]) ⟨z,z,z,z,z,Ah⟩<|⟨false,z,z,(((Ap hB6).then hB8).then hB9).below,hC9⟩
    rintro _ w6 ⟨x3,rfl,rfl,hB5,hC6⟩
    try dsimp only at hL1
    refine A7 z (fun hc5=>?_) (fun hc5=>?_)
    ·replace hL1:=A9 hL1 hc5
     refine Ac<|Ae z z<|Ab<|AC<|AU<|Ar<|Ar<|AU<|Ar<|Ar<|?_
     obtain rfl:=Aa hL1
     dsimp only at hF
     obtain rfl:=Aa hF
     exact Ay z z<|⟨_,z,AD hC6 _⟩
    replace hL1:=AA hL1 hc5
    exact A6<|AJ<|Aj<|AX<|Af z z<|Be z z z<|Ae z z<|Ab<|An (l':=[(4,(ptr b1 0)),(5,(ptr b2 0)),(7,(ptr b4 0)),(8,(I (w64 (x2+1))))]) ⟨z,z,z,z,Ah⟩<|⟨k1,Az _,w64 (x2+1),z,((Ap hB4).then hB5).below,hC6,hL1⟩
   replace hL1:=AA hL1 hc1
   refine Bm (A2 (A2 (AT ?_)))
   obtain rfl:=Aa hL1
   have hC13:=hC5.h0
   exact An (l':=[]) Ah<|⟨z,z,(Ap hB4).below,hC13⟩
 rintro l3 _ w17 hs3 ⟨rfl,rfl,hB15,hC14⟩
 try dsimp only at hF
 refine AO hs3 ?_
 clear hs3
 refine Ac<|Ae z z<|Ab<|AC<|?_
 obtain rfl:=Aa hF
 exact Ay z z<|⟨_,z,AD hC14 _⟩
theorem c_S_Disagree {w0:World} (a1:(List Int)) (u1:Value) (g1:RO [] w0 u1 a1) (a2:(List (Int × (List Int) × Int × Int × Int))) (u2:Value) (g2:RO [] w0 u2 a2) (a3:((Int × (List Int)) × (List (Int × (List Int))))) (u3:Value) (g3:RO [] w0 u3 a3.1.2) (u4:Value) (g4:RO [] w0 u4 a3.2) (a4:((Int × (List Int)) × (List (Int × (List Int))))) (u5:Value) (g5:RO [] w0 u5 a4.1.2) (u6:Value) (g6:RO [] w0 u6 a4.2) (rr:Bool) (hF:S.Disagree a1 a2 a3 a4=some rr) :
 Calls Tryz.prog 107 [u1,u2,(.agg #[(I a3.1.1),u3,u4]),(.agg #[(I a4.1.1),u5,u6])].toArray w0 fun e w'=>∃v,e=.returned v∧Res w0 rr v w':=by
 refine Aw Tryz.func107 z z ?_
 have hC0:=A1 w0
 unfold S.Disagree at hF
 refine Ac<|Bb (cs:=[(I a3.1.1),u3,u4]) hC0 z z z fun b1 w1 hC1 hB1 hN1=>Bb (cs:=[(I a4.1.1),u5,u6]) hC1 z z z fun b2 w2 hC2 hB2 hN2=>Ae z z<|Ab<|be hF fun r1 hr1 hF=>BH (fun l w=>∃x1:Bool,x1=r1∧l=[(8,(.bool x1))]∧Below w2.heap.size w2 w∧Ctx [] w0 w []) ?_ ?_
 ·refine AX<|Af z z<|Af z z<|A4 [(I a3.1.1),u3,u4] hC2 1 z z z BF B3 z z<|be hr1 fun x2 hr2 hr1=>cb Tryz.call106 z z (c_S_FitsSelf a1 u1 (g1.now hC2.keep) a2 u2 (g2.now hC2.keep) ((a3.1.1,a3.1.2),a3.2) u3 (g3.now hC2.keep) u4 (g4.now hC2.keep) x2 hr2) fun w4 hB4=>have hC4:=hC2.grow hB4;Af z z<|Bz (fun hc1=>?_) (fun hc1=>?_)
  ·replace hr1:=A9 hr1 hc1
   refine Ak z z<|Af z z<|Ak z z<|Af z z<|Ak z z<|A4 [(I a4.1.1),u5,u6] hC4 0 z z z BF B3 z z<|be hr1 fun x3 hr3 hr1=>Ak z z<|cb Tryz.call106 z z (c_S_FitsSelf a1 u1 (g1.now hC4.keep) a2 u2 (g2.now hC4.keep) ((a4.1.1,a4.1.2),a4.2) u5 (g5.now hC4.keep) u6 (g6.now hC4.keep) x3 hr3) fun w5 hB5=>have hC5:=hC4.grow hB5;Ba z z z<|Af z z<|Bz (fun hc2=>?_) (fun hc2=>?_)
   ·replace hr1:=A9 hr1 hc2
    refine Ak z z<|Af z z<|Ak z z<|A4 [(I a3.1.1),u3,u4] hC5 1 z z z BF B3 z z<|Ak z z<|A4 [(I a4.1.1),u5,u6] hC5 0 z z z BF B3 z z<|be hr1 fun x4 hr4 hr1=>Ak z z<|cb Tryz.call161 z z (c_S_l28Lacks a2 u2 (g2.now hC5.keep) ((a3.1.1,a3.1.2),a3.2) u3 (g3.now hC5.keep) u4 (g4.now hC5.keep) ((a4.1.1,a4.1.2),a4.2) u5 (g5.now hC5.keep) u6 (g6.now hC5.keep) x4 hr4) fun w6 hB6=>have hC6:=hC5.grow hB6;Ak z z<|Af z z<|Bz (fun hc3=>?_) (fun hc3=>?_)
    ·replace hr1:=A9 hr1 hc3
     refine gs z z z z<|gs z z z z<|gs z z z z<|gs z z z z<|Ak z z<|Ba z z z<|Ba z z z<|Ae z z<|Ab<|?_
     obtain rfl:=Aa hr1
     have hC7:=hC6.h0
     exact An (l':=[(8,(.bool true))]) ⟨z,Ah⟩<|⟨true,z,z,(((Ap hB4).then hB5).then hB6).below,hC7⟩
    replace hr1:=AA hr1 hc3
    refine Ak z z<|Af z z<|Ak z z<|A4 [(I a4.1.1),u5,u6] hC6 0 z z z BF B3 z z<|Ak z z<|A4 [(I a3.1.1),u3,u4] hC6 1 z z z BF B3 z z<|be hr1 fun x5 hr5 hr1=>Ak z z<|cb Tryz.call161 z z (c_S_l28Lacks a2 u2 (g2.now hC6.keep) ((a4.1.1,a4.1.2),a4.2) u5 (g5.now hC6.keep) u6 (g6.now hC6.keep) ((a3.1.1,a3.1.2),a3.2) u3 (g3.now hC6.keep) u4 (g4.now hC6.keep) x5 hr5) fun w7 hB7=>have hC8:=hC6.grow hB7;Ak z z<|AY z z z<|Ba z z z<|Ae z z<|Ab<|?_
    obtain rfl:=Aa hr1
    have hC9:=hC8.h0
    exact An (l':=[(8,(.bool x5))]) ⟨z,Ah⟩<|⟨x5,z,z,((((Ap hB4).then hB5).then hB6).then hB7).below,hC9⟩
   replace hr1:=AA hr1 hc2
   refine gs z z z z<|gs z z z z<|gs z z z z<|gs z z z z<|gs z z z z<|gs z z z z<|gs z z z z<|gs z z z z<|gs z z z z<|gs z z z z<|AY z z z<|Ae z z<|Ab<|?_
   obtain rfl:=Aa hr1
   have hC10:=hC5.h0
   exact An (l':=[(8,(.bool false))]) ⟨z,Ah⟩<|⟨false,z,z,((Ap hB4).then hB5).below,hC10⟩
  replace hr1:=AA hr1 hc1
  refine gs z z z z<|gs z z z z<|gs z z z z<|gs z z z z<|AY z z z<|Af z z<|gs z z z z<|gs z z z z<|gs z z z z<|gs z z z z<|gs z z z z<|gs z z z z<|gs z z z z<|gs z z z z<|gs z z z z<|gs z z z z<|AY z z z<|Ae z z<|Ab<|?_
  obtain rfl:=Aa hr1
  have hC11:=hC4.h0
  exact An (l':=[(8,(.bool false))]) ⟨z,Ah⟩<|⟨false,z,z,(Ap hB4).below,hC11⟩
 rintro _ w3 ⟨x1,rfl,rfl,hB3,hC3⟩
 try dsimp only at hF
 refine AC ?_
 obtain rfl:=Aa hF
 exact Ay z z<|⟨_,z,AD hC3 _⟩
end Go.Gx.Px
