/- The contracts of the Go functions against the pure functions, printed by program. Conditions: each says them. -/
import Derived.Test.YtdkfiadoiapnbaaGreatC4
set_option linter.unusedVariables false
set_option linter.unusedSimpArgs false
set_option maxRecDepth 100000
set_option maxHeartbeats 4000000
namespace Go.Gx.Px
open Go.Proofs Go.RowKit
open K9
theorem c_S_l3Query {w0:World} {Fs:List (List Nat)} (pb1:Nat) (a1:((List UInt8) × Int × Int)) (u1:Value) (g1:RO Fs.flatten w0 u1 a1.1) (a2:(List Int)) (u2:Value) (g2:RO Fs.flatten w0 u2 a2) (hH:Hold [Af pb1 [u1,(I a1.2.1),(I a1.2.2)]] w0 Fs) (hn:Fs.flatten.Nodup) (rr:(((List Int) × (List (Int × (List Int)))) × ((List UInt8) × Int × Int))) (hF:S.l3Query a1 a2=some rr) :
 Calls Tryz.prog 128 [(ptr pb1 0),u2].toArray w0 fun e w'=>∃v,e=.returned v∧∃q0:Value,v=q0∧Ctx Fs.flatten w0 w' [Ab q0 (rr.1:((List Int) × (List (Int × (List Int))))),Af pb1 [u1,(I rr.2.2.1),(I rr.2.2.2)]]:=by
 refine Au Tryz.func128 z z ?_
 have hC0:=BD hH hn
 unfold S.l3Query at hF
 refine Ad<|By hC0 zero37 z z fun b1 w1 hC1 hB1 hN1=>Ac<|Ad<|Ck (vs:=[]) z z z built37<|By hC1 zero37 z z fun b2 w2 hC2 hB2 hN2=>AO (cs':=[(.slice none 0 0),(.slice none 0 0)]) (new:=[(.slice none 0 0),(.slice none 0 0)]) hC2 0 z z (fac z<|fac z<|fa0) z A4 z z fun w3 hC3 hKp1=>?_
 try dsimp only [List.set] at hC3
 have hk1:=AY ((Ap hB1).then hB2) (Bg (Ap hB1).size hN2) hKp1
 have hk2:=AY (Ap hB2) hN2 hKp1
 refine Ac<|A6<|Ad<|Ag z z<|be hF fun x1 hr1 hF=>have hC4:=hC3.f2;?_
 obtain ⟨Fs1,hH1,hn1,hF1,hO1,hb1⟩:=AW (As:=[Af b2 [(.slice none 0 0),(.slice none 0 0)],Af b1 [(.slice none 0 0),(.slice none 0 0)]]) [Af pb1 [u1,(I a1.2.1),(I a1.2.2)]] hC4
 refine A7 B2 z z (c_S_l1Below pb1 (a1.1,a1.2.1,a1.2.2) u1 (Bf g1 hC4.keep hF1) 3 hH1 hn1 x1 hr1) ?_
 rintro _ w4 ⟨rfl,hq1⟩
 have hC5:Ctx Fs.flatten w0 w4 [Af pb1 [u1,(I x1.2.2.1),(I x1.2.2.2)],Af b2 [(.slice none 0 0),(.slice none 0 0)],Af b1 [(.slice none 0 0),(.slice none 0 0)]]:=hb1 _ _ hq1
 refine Bj z z z<|Ae z z<|Ac<|be hF fun r1 hr2 hF=>Bd (fun l w=>∃x7:Int,∃x8:Int,∃v3:Value,∃x9:(List Int),∃v4:Value,∃x10:(List (Int × (List Int))),(x7,x8,x9,x10)=r1∧l=[(0,(ptr pb1 0)),(4,(ptr b1 0)),(5,(ptr b2 0))]∧Ctx Fs.flatten w0 w [Ab v4 (x10:(List (Int × (List Int)))),Ab v3 (x9:(List Int)),Af pb1 [u1,(I x7),(I x8)],Af b2 [v3,v4],Af b1 [(.slice none 0 0),(.slice none 0 0)]]) ?_ ?_
 ·refine AH ?_
  have hC51:=hC5.triv (nil_val (α:=(Int × (List Int))))
  have hC52:=hC51.triv (nil_val (α:=Int))
  have hC53:=hC52.f4
  have hC54:=hC53.f4
  have hC55:=hC54.f4
  have hC56:=hC55.f3
  have hC57:=hC56.f4
  refine wS (l':=[(0,(ptr pb1 0)),(1,u2),(4,(ptr b1 0)),(5,(ptr b2 0)),(6,(I (w64 (1+x1.1))))]) ⟨z,z,z,z,z,Ai⟩<|Bu (fun k l w=>∃x2:Int,∃x3:Int,∃v1:Value,∃x4:(List Int),∃v2:Value,∃x5:(List (Int × (List Int))),∃x6:Int,l=[(0,(ptr pb1 0)),(1,u2),(4,(ptr b1 0)),(5,(ptr b2 0)),(6,(I x6))]∧Ctx Fs.flatten w0 w [Ab v2 (x5:(List (Int × (List Int)))),Ab v1 (x4:(List Int)),Af pb1 [u1,(I x2),(I x3)],Af b2 [v1,v2],Af b1 [(.slice none 0 0),(.slice none 0 0)]]∧S.l3Query_l1 a1 a2 k x2 x3 x4 x5 x6=some r1) FUEL ⟨x1.2.2.1,x1.2.2.2,(.slice none 0 0),[],(.slice none 0 0),[],w64 (1+x1.1),z,hC57,hr2⟩<|?_
  clear hr2
  rintro k1 _ w5 ⟨x2,x3,v1,x4,v2,x5,x6,rfl,hC6,hL1⟩
  cases k1 with
  | zero=>rw [S.l3Query_l1] at hL1; cases hL1
  | succ k1 =>
   rw [S.l3Query_l1] at hL1
   refine A6<|Ad<|Ag z z<|C8 z z z<|Ac<|AI z (fun hc1=>?_) (fun hc1=>?_)
   ·replace hL1:=AC hL1 hc1
    refine AJ<|Am<|A6<|AH<|Ad<|Ag z z<|Ag z z<|AZ Ah g2 z z<|be hL1 fun x11 hr3 hL1=>have hC7:=hC6.f2;?_
    obtain ⟨Fs2,hH2,hn2,hF2,hO2,hb2⟩:=AW (As:=[Ab v2 (x5:(List (Int × (List Int)))),Ab v1 (x4:(List Int)),Af b2 [v1,v2],Af b1 [(.slice none 0 0),(.slice none 0 0)]]) [Af pb1 [u1,(I x2),(I x3)]] hC7
    refine A7 B2 z z (c_S_l1Below pb1 (a1.1,x2,x3) u1 (Bf g1 hC7.keep hF2) (List.length a2:Int) hH2 hn2 x11 hr3) ?_
    rintro _ w6 ⟨rfl,hq2⟩
    have hC8:Ctx Fs.flatten w0 w6 [Af pb1 [u1,(I x11.2.2.1),(I x11.2.2.2)],Ab v2 (x5:(List (Int × (List Int)))),Ab v1 (x4:(List Int)),Af b2 [v1,v2],Af b1 [(.slice none 0 0),(.slice none 0 0)]]:=hb2 _ _ hq2
    refine Ck (vs:=[(0,(I x11.1))]) z z z (built84_0 z)<|By hC8 zero84 z z fun b3 w7 hC9 hB4 hN3=>AO (cs':=[(I x11.1),(.slice none 0 0)]) (new:=[(I x11.1),(.slice none 0 0)]) hC9 0 z z (fac z<|fac z<|fa0) z Ca z z fun w9 hC10 hKp2=>?_
    try dsimp only [List.set] at hC10
    have hk3:=AY (Ap hB4) hN3 hKp2
    refine Ac<|A6<|Ad<|Ae z z<|Ac<|be hL1 fun r2 hr4 hL1=>Bd (fun l w=>∃x17:Int,∃v6:Value,∃x18:(List Int),∃x19:Int,∃x20:Int,(x17,x18,x19,x20)=r2∧l=[(0,(ptr pb1 0)),(1,u2),(4,(ptr b1 0)),(5,(ptr b2 0)),(6,(I x6)),(7,(ptr b3 0))]∧Ctx Fs.flatten w0 w [Ab v6 (x18:(List Int)),Af b3 [(I x17),v6],Af pb1 [u1,(I x19),(I x20)],Ab v2 (x5:(List (Int × (List Int)))),Ab v1 (x4:(List Int)),Af b2 [v1,v2],Af b1 [(.slice none 0 0),(.slice none 0 0)]]) ?_ ?_
    ·refine AH ?_
     have hC33:=hC10.triv (nil_val (α:=Int))
     refine wS (l':=[(0,(ptr pb1 0)),(1,u2),(4,(ptr b1 0)),(5,(ptr b2 0)),(6,(I x6)),(7,(ptr b3 0)),(8,(I 0))]) ⟨z,z,z,z,z,z,z,Ai⟩<|Bu (fun k l w=>∃x12:Int,∃v5:Value,∃x13:(List Int),∃x14:Int,∃x15:Int,∃x16:Int,l=[(0,(ptr pb1 0)),(1,u2),(4,(ptr b1 0)),(5,(ptr b2 0)),(6,(I x6)),(7,(ptr b3 0)),(8,(I x16))]∧Ctx Fs.flatten w0 w [Ab v5 (x13:(List Int)),Af b3 [(I x12),v5],Af pb1 [u1,(I x14),(I x15)],Ab v2 (x5:(List (Int × (List Int)))),Ab v1 (x4:(List Int)),Af b2 [v1,v2],Af b1 [(.slice none 0 0),(.slice none 0 0)]]∧S.l3Query_l2 a2 a1 k x12 x13 x14 x15 x16=some r2) FUEL ⟨x11.1,(.slice none 0 0),[],x11.2.2.1,x11.2.2.2,0,z,hC33,hr4⟩<|?_
     clear hr4
     rintro k2 _ w10 ⟨x12,v5,x13,x14,x15,x16,rfl,hC11,hL2⟩
     cases k2 with
     | zero=>rw [S.l3Query_l2] at hL2; cases hL2
     | succ k2 =>
      rw [S.l3Query_l2] at hL2
      refine A6<|Ad<|Ag z z<|Ag z z<|fd AB AE z z z z<|Ao hC11 1 z z Bl z z<|be hL2 fun x21 hx1 hL2=>AG Ah ty3 g2 hx1 z z z fun b4 o1 h1=>A3 ty3 h1 hC11.keep z z fun v7 h2=>?_
      obtain rfl:=Bn h2
      refine Bo z z z<|Ac<|AI z (fun hc2=>?_) (fun hc2=>?_)
      ·replace hL2:=AC hL2 hc2
       refine AJ<|Am<|A6<|AH<|Ad<|Ag z z<|be hL2 fun x22 hr5 hL2=>have hC12:=hC11.f2;?_
       obtain ⟨Fs3,hH3,hn3,hF3,hO3,hb3⟩:=AW (As:=[Ab v5 (x13:(List Int)),Af b3 [(I x12),v5],Ab v2 (x5:(List (Int × (List Int)))),Ab v1 (x4:(List Int)),Af b2 [v1,v2],Af b1 [(.slice none 0 0),(.slice none 0 0)]]) [Af pb1 [u1,(I x14),(I x15)]] hC12
       refine A7 B2 z z (c_S_l1Below pb1 (a1.1,x14,x15) u1 (Bf g1 hC12.keep hF3) 4 hH3 hn3 x22 hr5) ?_
       rintro _ w11 ⟨rfl,hq3⟩
       have hC13:Ctx Fs.flatten w0 w11 [Af pb1 [u1,(I x22.2.2.1),(I x22.2.2.2)],Ab v5 (x13:(List Int)),Af b3 [(I x12),v5],Ab v2 (x5:(List (Int × (List Int)))),Ab v1 (x4:(List Int)),Af b2 [v1,v2],Af b1 [(.slice none 0 0),(.slice none 0 0)]]:=hb3 _ _ hq3
       refine Bj z z z<|Ae z z<|Ac<|A6<|Ad<|Ag z z<|be hL2 fun x23 hr6 hL2=>?_
       obtain ⟨Fs4,hH4,hn4,hF4,hO4,hb4⟩:=AW (As:=[Ab v5 (x13:(List Int)),Af b3 [(I x12),v5],Ab v2 (x5:(List (Int × (List Int)))),Ab v1 (x4:(List Int)),Af b2 [v1,v2],Af b1 [(.slice none 0 0),(.slice none 0 0)]]) [Af pb1 [u1,(I x22.2.2.1),(I x22.2.2.2)]] hC13
       refine A7 Cg z z (c_S_l1Once pb1 (a1.1,x22.2.2.1,x22.2.2.2) u1 (Bf g1 hC13.keep hF4) 4 hH4 hn4 x23 hr6) ?_
       rintro _ w12 ⟨rfl,hq4⟩
       have hC14:Ctx Fs.flatten w0 w12 [Af pb1 [u1,(I x23.2.2.1),(I x23.2.2.2)],Ab v5 (x13:(List Int)),Af b3 [(I x12),v5],Ab v2 (x5:(List (Int × (List Int)))),Ab v1 (x4:(List Int)),Af b2 [v1,v2],Af b1 [(.slice none 0 0),(.slice none 0 0)]]:=hb4 _ _ hq4
       refine Ac<|be hL2 fun r3 hr7 hL2=>Bd (fun l w=>∃x24:Int,∃x25:Int,∃x26:Int,(x24,x25,x26)=r3∧l=[(0,(ptr pb1 0)),(1,u2),(4,(ptr b1 0)),(5,(ptr b2 0)),(6,(I x6)),(7,(ptr b3 0)),(8,(I x16)),(9,(I x26))]∧Ctx Fs.flatten w0 w [Af pb1 [u1,(I x24),(I x25)],Ab v5 (x13:(List Int)),Af b3 [(I x12),v5],Ab v2 (x5:(List (Int × (List Int)))),Ab v1 (x4:(List Int)),Af b2 [v1,v2],Af b1 [(.slice none 0 0),(.slice none 0 0)]]) ?_ ?_
       ·refine AI z (fun hc3=>?_) (fun hc3=>?_)
        ·replace hr7:=AC hr7 hc3
         refine Bb<|Ag z z<|be hr7 fun x27 hr8 hr7=>?_
         obtain ⟨Fs5,hH5,hn5,hF5,hO5,hb5⟩:=AW (As:=[Ab v5 (x13:(List Int)),Af b3 [(I x12),v5],Ab v2 (x5:(List (Int × (List Int)))),Ab v1 (x4:(List Int)),Af b2 [v1,v2],Af b1 [(.slice none 0 0),(.slice none 0 0)]]) [Af pb1 [u1,(I x23.2.2.1),(I x23.2.2.2)]] hC14
         refine A7 B2 z z (c_S_l1Below pb1 (a1.1,x23.2.2.1,x23.2.2.2) u1 (Bf g1 hC14.keep hF5) 4 hH5 hn5 x27 hr8) ?_
         rintro _ w14 ⟨rfl,hq5⟩
         have hC16:Ctx Fs.flatten w0 w14 [Af pb1 [u1,(I x27.2.2.1),(I x27.2.2.2)],Ab v5 (x13:(List Int)),Af b3 [(I x12),v5],Ab v2 (x5:(List (Int × (List Int)))),Ab v1 (x4:(List Int)),Af b2 [v1,v2],Af b1 [(.slice none 0 0),(.slice none 0 0)]]:=hb5 _ _ hq5
         refine Ae z z<|Ac<|?_
         obtain rfl:=Aa hr7
         exact Ak (l':=[(0,(ptr pb1 0)),(1,u2),(4,(ptr b1 0)),(5,(ptr b2 0)),(6,(I x6)),(7,(ptr b3 0)),(8,(I x16)),(9,(I x27.1))]) ⟨z,z,z,z,z,z,z,z,Ai⟩<|⟨x27.2.2.1,x27.2.2.2,x27.1,z,z,hC16⟩
        replace hr7:=AD hr7 hc3
        refine AJ ?_
        obtain rfl:=Aa hr7
        exact Ak (l':=[(0,(ptr pb1 0)),(1,u2),(4,(ptr b1 0)),(5,(ptr b2 0)),(6,(I x6)),(7,(ptr b3 0)),(8,(I x16)),(9,(I (w64 (10+x22.1))))]) ⟨z,z,z,z,z,z,z,z,Ai⟩<|⟨x23.2.2.1,x23.2.2.2,w64 (10+x22.1),z,z,hC14⟩
       rintro l3 _ w13 hs3 ⟨x24,x25,x26,rfl,rfl,hC15⟩
       try dsimp only at hL2
       refine AL hs3 ?_
       clear hs3
       refine Bb<|fd AB Aw z z z z<|Ao hC15 2 z z AQ z z<|Ag z z<|A2 (vs:=[(I x26)]) hC15 Ah ty3 z z z z (fac z<|fa0) z z fun b5 w15 hC17 hB7=>?_
       have hC18:=hC17.row0 (α:=Int)
       have hC19:=hC18.triv (Bm (x26))
       have hC20:=hC19.row1
       have hC21:=hC20.front 1 z
       dsimp only [List.eraseIdx,List.cons_append,List.nil_append,List.append_nil] at hC21
       have hC22:Ctx Fs.flatten w0 w15 (Ab (.slice (some ⟨b5,0,none⟩) 1 1) ([x26]:List Int)::[Af pb1 [u1,(I x24),(I x25)],Ab v5 (x13:(List Int)),Af b3 [(I x12),v5],Ab v2 (x5:(List (Int × (List Int)))),Ab v1 (x4:(List Int)),Af b2 [v1,v2],Af b1 [(.slice none 0 0),(.slice none 0 0)]]):=hC21.rowOwn (by simp [maxLen])
       refine be hL2 fun x28 hx2 hL2=>Bi (α:=Int) hC22 2 z (hC22.ro 0 z) (Aq _ _) Ah ty3 z hx2 z z z fun v8 w16 hC23=>?_
       try dsimp only [List.set] at hC23
       refine fd AB Aw z z z z<|B3 (cs':=[(I x12),v8]) hC23 3 z z (Bz (hC23.ro 2 z)) z Aw z z fun w17 hC24 hKp3=>?_
       try dsimp only [List.set] at hC24
       exact Ac<|AM<|Am<|Bb<|Ag z z<|Bj z z z<|Ae z z<|Ac<|have hC25:=hC24.f7;have hC26:=hC25.f7;have hC27:=hC26.f7;have hC28:=hC27.f7;have hC29:=hC28.f5;have hC30:=hC29.f7;have hC31:=hC30.f7;have hC32:=hC31.h7;Ak (l':=[(0,(ptr pb1 0)),(1,u2),(4,(ptr b1 0)),(5,(ptr b2 0)),(6,(I x6)),(7,(ptr b3 0)),(8,(I (w64 (x16+1))))]) ⟨z,z,z,z,z,z,z,Ai⟩<|⟨k2,Av _,x12,v8,x28,x24,x25,w64 (x16+1),z,hC32,hL2⟩
      replace hL2:=AD hL2 hc2
      refine Bt (A1 (A1 (Be ?_)))
      obtain rfl:=Aa hL2
      exact Ak (l':=[(0,(ptr pb1 0)),(1,u2),(4,(ptr b1 0)),(5,(ptr b2 0)),(6,(I x6)),(7,(ptr b3 0))]) ⟨z,z,z,z,z,z,Ai⟩<|⟨x12,v5,x13,x14,x15,z,z,hC11⟩
    rintro l4 _ w18 hs4 ⟨x17,v6,x18,x19,x20,rfl,rfl,hC34⟩
    try dsimp only at hL1
    refine AL hs4 ?_
    clear hs4
    refine Bb<|fd A0 AU z z z z<|Ao hC34 5 z z Ba z z<|A9 [(I x17),v6] hC34 1 z z z C9 Ca z z<|A2 (vs:=[(.agg #[(I x17),v6])]) hC34 Ax ty84 z z z z (fac z<|fa0) z z fun b6 w19 hC35 hB9=>?_
    have hC36:=hC35.row0 (α:=(Int × (List Int)))
    have hC38:=hC36.f2
    have hC37:=Cv x17 v6 x18 hC38
    have hC39:=hC37.row1
    have hC40:=hC39.front 1 z
    dsimp only [List.eraseIdx,List.cons_append,List.nil_append,List.append_nil] at hC40
    have hC41:Ctx Fs.flatten w0 w19 (Ab (.slice (some ⟨b6,0,none⟩) 1 1) ([(x17,x18)]:List (Int × (List Int)))::[Af b3 [(I x17),v6],Af pb1 [u1,(I x19),(I x20)],Ab v2 (x5:(List (Int × (List Int)))),Ab v1 (x4:(List Int)),Af b2 [v1,v2],Af b1 [(.slice none 0 0),(.slice none 0 0)]]):=hC40.rowOwn (by simp [maxLen])
    refine be hL1 fun x29 hx3 hL1=>CF hC41 2 z Ax ty84 z hx3 z z z fun v9 w20 hC42=>?_
    try dsimp only [List.set] at hC42
    refine fd A0 AU z z z z<|B3 (cs':=[v1,v9]) hC42 4 z z (Bz (hC42.ro 2 z)) z AU z z fun w21 hC44 hKp4=>?_
    try dsimp only [List.set] at hC44
    exact Ac<|AM<|Am<|Bb<|Ag z z<|BN z z z<|Ae z z<|Ac<|have hC45:=hC44.f5;have hC46:=hC45.f5;have hC47:=hC46.f3;have hC48:=hC47.f5;have hC49:=hC48.f5;have hC50:=hC49.h5;Ak (l':=[(0,(ptr pb1 0)),(1,u2),(4,(ptr b1 0)),(5,(ptr b2 0)),(6,(I (w64 (x6 - 1))))]) ⟨z,z,z,z,z,Ai⟩<|⟨k1,Av _,x19,x20,v1,x4,v9,x29,w64 (x6 - 1),z,hC50,hL1⟩
   replace hL1:=AD hL1 hc1
   refine Bt (A1 (A1 (Be ?_)))
   obtain rfl:=Aa hL1
   exact Ak (l':=[(0,(ptr pb1 0)),(4,(ptr b1 0)),(5,(ptr b2 0))]) ⟨z,z,z,Ai⟩<|⟨x2,x3,v1,x4,v2,x5,z,z,hC6⟩
 rintro l5 _ w22 hs5 ⟨x7,x8,v3,x9,v4,x10,rfl,rfl,hC58⟩
 try dsimp only at hF
 refine AL hs5 ?_
 clear hs5
 refine Ad<|A9 [v3,v4] hC58 3 z z z AT A4 z z<|be hF fun x30 hr9 hF=>A7 Tryz.call113 z z (c_S_VarsOf (x9,x10) v3 ((hC58.ro 1 z).now (Aq _ _)) v4 ((hC58.ro 0 z).now (Aq _ _)) x30 hr9)<|?_
 rintro v10 w23 ⟨hB11,F1,hv1,hn6,hb6⟩
 have hC59:=hC58.push hB11 (A:=Ab v10 x30) hv1 hn6 hb6
 refine Ae z z<|Ac<|A6<|Ad<|Ae z z<|Ac<|be hF fun r4 hr10 hF=>Bd (fun l w=>∃x36:Int,∃x37:Int,∃v13:Value,∃x38:(List Int),∃v14:Value,∃x39:(List (Int × (List Int))),(x36,x37,x38,x39)=r4∧l=[(4,(ptr b1 0)),(5,(ptr b2 0))]∧Ctx Fs.flatten w0 w [Ab v14 (x39:(List (Int × (List Int)))),Ab v13 (x38:(List Int)),Af pb1 [u1,(I x36),(I x37)],Af b2 [v13,v14],Af b1 [(.slice none 0 0),(.slice none 0 0)]]) ?_ ?_
 ·refine AH<|wS (l':=[(0,(ptr pb1 0)),(4,(ptr b1 0)),(5,(ptr b2 0)),(10,v10),(11,(I 0))]) ⟨z,z,z,z,z,Ai⟩<|Bu (fun k l w=>∃x31:Int,∃x32:Int,∃v11:Value,∃x33:(List Int),∃v12:Value,∃x34:(List (Int × (List Int))),∃x35:Int,l=[(0,(ptr pb1 0)),(4,(ptr b1 0)),(5,(ptr b2 0)),(10,v10),(11,(I x35))]∧Ctx Fs.flatten w0 w [Ab v10 (x30:(List Int)),Ab v12 (x34:(List (Int × (List Int)))),Ab v11 (x33:(List Int)),Af pb1 [u1,(I x31),(I x32)],Af b2 [v11,v12],Af b1 [(.slice none 0 0),(.slice none 0 0)]]∧S.l3Query_l3 x30 a1 k x31 x32 x33 x34 x35=some r4) FUEL ⟨x7,x8,v3,x9,v4,x10,0,z,hC59,hr10⟩<|?_
  clear hr10
  rintro k3 _ w24 ⟨x31,x32,v11,x33,v12,x34,x35,rfl,hC60,hL3⟩
  cases k3 with
  | zero=>rw [S.l3Query_l3] at hL3; cases hL3
  | succ k3 =>
   rw [S.l3Query_l3] at hL3
   refine A6<|be hL3 fun r5 hr11 hL3=>BA (fun l w=>∃x40:Bool,x40=r5∧l=[(0,(ptr pb1 0)),(4,(ptr b1 0)),(5,(ptr b2 0)),(10,v10),(11,(I x35)),(64,(.bool x40))]∧Below w24.heap.size w24 w∧Ctx Fs.flatten w0 w [Ab v10 (x30:(List Int)),Ab v12 (x34:(List (Int × (List Int)))),Ab v11 (x33:(List Int)),Af pb1 [u1,(I x31),(I x32)],Af b2 [v11,v12],Af b1 [(.slice none 0 0),(.slice none 0 0)]]) ?_ ?_
   ·refine Bb<|Ag z z<|Ag z z<|AZ Ah (hC60.ro 0 z) z z<|Bo z z z<|Ag z z<|Br (fun hc4=>?_) (fun hc4=>?_)
    ·replace hr11:=AC hr11 hc4
     refine Aj z z<|fd A0 Aw z z z z<|Aj z z<|Ao hC60 4 z z AQ z z<|Aj z z<|AZ Ah (hC60.ro 2 z) z z<|Aj z z<|Bo z z z<|AV z z z<|Ac<|?_
     obtain rfl:=Aa hr11
     exact Ak (l':=[(0,(ptr pb1 0)),(4,(ptr b1 0)),(5,(ptr b2 0)),(10,v10),(11,(I x35)),(64,(.bool (decide ((List.length x33:Int) < 2))))]) ⟨z,z,z,z,z,z,Ai⟩<|⟨(decide ((List.length x33:Int) < 2)),z,z,(Al _ _),hC60⟩
    replace hr11:=AD hr11 hc4
    refine gs z z z z<|gs z z z z<|gs z z z z<|gs z z z z<|AS z z z<|Ac<|?_
    obtain rfl:=Aa hr11
    exact Ak (l':=[(0,(ptr pb1 0)),(4,(ptr b1 0)),(5,(ptr b2 0)),(10,v10),(11,(I x35)),(64,(.bool false))]) ⟨z,z,z,z,z,z,Ai⟩<|⟨false,z,z,(Al _ _),hC60⟩
   rintro _ w25 ⟨x40,rfl,rfl,hB13,hC61⟩
   try dsimp only at hL3
   refine AI z (fun hc5=>?_) (fun hc5=>?_)
   ·replace hL3:=AC hL3 hc5
    refine AJ<|Am<|A6<|AH<|Ad<|Ag z z<|be hL3 fun x41 hr12 hL3=>have hC62:=hC61.f3;?_
    obtain ⟨Fs6,hH6,hn7,hF6,hO6,hb7⟩:=AW (As:=[Ab v10 (x30:(List Int)),Ab v12 (x34:(List (Int × (List Int)))),Ab v11 (x33:(List Int)),Af b2 [v11,v12],Af b1 [(.slice none 0 0),(.slice none 0 0)]]) [Af pb1 [u1,(I x31),(I x32)]] hC62
    refine A7 Cg z z (c_S_l1Once pb1 (a1.1,x31,x32) u1 (Bf g1 hC62.keep hF6) 2 hH6 hn7 x41 hr12) ?_
    rintro _ w26 ⟨rfl,hq12⟩
    have hC63:Ctx Fs.flatten w0 w26 [Af pb1 [u1,(I x41.2.2.1),(I x41.2.2.2)],Ab v10 (x30:(List Int)),Ab v12 (x34:(List (Int × (List Int)))),Ab v11 (x33:(List Int)),Af b2 [v11,v12],Af b1 [(.slice none 0 0),(.slice none 0 0)]]:=hb7 _ _ hq12
    refine Ac<|be hL3 fun r6 hr13 hL3=>Bd (fun l w=>∃v15:Value,∃x42:(List Int),∃v16:Value,∃x43:(List (Int × (List Int))),(x42,x43)=r6∧l=[(0,(ptr pb1 0)),(4,(ptr b1 0)),(5,(ptr b2 0)),(10,v10),(11,(I x35))]∧Ctx Fs.flatten w0 w [Af pb1 [u1,(I x41.2.2.1),(I x41.2.2.2)],Ab v10 (x30:(List Int)),Ab v16 (x43:(List (Int × (List Int)))),Ab v15 (x42:(List Int)),Af b2 [v15,v16],Af b1 [(.slice none 0 0),(.slice none 0 0)]]) ?_ ?_
    ·refine AI z (fun hc6=>?_) (fun hc6=>?_)
     ·replace hr13:=AC hr13 hc6
      refine B1 10 z hmix fun w28 hB15=>have hC65:=hC63.grow hB15;tf 0 A0 Aw z z z z z<|tm 2 z z z<|tm 3 z z z<|be hr13 fun x44 hx4 hr13=>tk 4 z z (B4 Ah ty3 (hC65.ro 1 z) hx4 z z)<|AG Ah ty3 (hC65.ro 1 z) hx4 z z z fun b7 o2 h3=>Ac<|wAS (l':=[(0,(ptr pb1 0)),(4,(ptr b1 0)),(5,(ptr b2 0)),(10,v10),(11,(I x35)),(64,(.bool x40)),(67,(ptr pb1 0)),(68,(.bool x41.1)),(69,(ptr b2 0)),(71,v10),(72,(I x35)),(73,(ptr b7 o2))]) ⟨z,z,z,z,z,z,z,z,z,z,z,z,Ai⟩<|Bw [⟨1,[],fun vs=>Bh v11,[]⟩,⟨5,[],fun vs=>Bh (I x44),[]⟩,⟨6,[],fun vs=>PW.own ([x44]:(List Int)),[]⟩] [[],[],[5]] 3 z (by kernel_rfl) (by kernel_rfl) z ?_ ?_
      ·refine An z ?_ ?_
       ·intro w30 hB17
        refine Ar<|⟨_,z,?_⟩
        exact Ao (hC65.grow hB17) 4 z z AQ z z<|Ac<|Ay (Al _ _) z z ⟨z,z⟩
       refine An z ?_ ?_
       ·intro w30 hB17
        refine Ar<|⟨_,z,?_⟩
        refine A3 ty3 h3 (Ap hB17) z z (fun v17 h4=>?_)
        obtain rfl:=Bn h4
        exact Ac<|Ay (Al _ _) z z ⟨z,z⟩
       refine An z ?_ ?_
       ·intro w30 hB17
        refine AK z z z ?_
        rintro _ _ ⟨rfl,rfl⟩ _
        refine Ar<|⟨_,z,?_⟩
        refine A2 (vs:=[(I x44)]) (AA w30) Ah ty3 z z z z (fac z<|fa0) z z (fun b8 w29 hC66 hB16=>?_)
        have hC67:=hC66.row0 (α:=Int)
        have hC68:=hC67.triv (Bm (x44))
        have hC69:=hC68.row1
        have hC70:=hC69.front 1 z
        dsimp only [List.eraseIdx,List.cons_append,List.nil_append,List.append_nil] at hC70
        have hC71:Ctx [] w30 w29 (Ab (.slice (some ⟨b8,0,none⟩) 1 1) ([x44]:List Int)::[]):=hC70.rowOwn (by simp [maxLen])
        exact Ac<|FinE_ctx hC71 z z (fun F h=>h)
       exact Bp
      intro w31 hB18
      refine At z z z ?_
      rintro _ _ ⟨rfl,rfl⟩
      refine At z z z ?_
      rintro _ _ ⟨rfl,rfl⟩
      refine At z z z fun v18 F2 hv2=>B0 fun hn8 hb8=>?_
      have hC72:=hC65.pushL hB18 (Bs:=[Ab v18 ([x44]:(List Int))]) (Fs:=[F2]) ⟨F2,_,z,hv2,z⟩ (by simpa using hn8) (fun b h=>(hb8 b (by simpa using h)).1)
      refine be hr13 fun x45 hx5 hr13=>oe 7 z<|Bi (α:=Int) hC72 4 z (hC72.ro 0 z) (Aq _ _) Ah ty3 z hx5 z z z fun v19 w32 hC73=>?_
      try dsimp only [List.set] at hC73
      refine Ac<|tf 8 A0 Aw z z z z z<|oe 9 z<|B3 (cs':=[v19,v12]) hC73 5 z z (Bz (hC73.ro 4 z)) z Aw z z fun w33 hC74 hKp5=>?_
      try dsimp only [List.set] at hC74
      refine Ac<|dn<|?_
      obtain rfl:=Aa hr13
      have hC75:=hC74.f6
      have hC76:=hC75.f6
      have hC77:=hC76.f6
      have hC78:=hC77.f6
      have hC79:=hC78.f6
      have hC80:=hC79.f6
      have hC81:=hC80.h6
      exact Ak (l':=[(0,(ptr pb1 0)),(4,(ptr b1 0)),(5,(ptr b2 0)),(10,v10),(11,(I x35))]) ⟨z,z,z,z,z,Ai⟩<|⟨v19,x45,v12,x34,z,z,hC81⟩
     replace hr13:=AD hr13 hc6
     refine AJ ?_
     obtain rfl:=Aa hr13
     exact Ak (l':=[(0,(ptr pb1 0)),(4,(ptr b1 0)),(5,(ptr b2 0)),(10,v10),(11,(I x35))]) ⟨z,z,z,z,z,Ai⟩<|⟨v11,x33,v12,x34,z,z,hC63⟩
    rintro l8 _ w27 hs8 ⟨v15,x42,v16,x43,rfl,rfl,hC64⟩
    try dsimp only at hL3
    refine AM<|AL hs8<|?_
    clear hs8
    exact Bb<|Ag z z<|Bj z z z<|Ae z z<|Ac<|have hC82:=hC64.f5;have hC83:=hC82.f5;have hC84:=hC83.f2;have hC85:=hC84.f5;have hC86:=hC85.f5;have hC87:=hC86.f5;Ak (l':=[(0,(ptr pb1 0)),(4,(ptr b1 0)),(5,(ptr b2 0)),(10,v10),(11,(I (w64 (x35+1))))]) ⟨z,z,z,z,z,Ai⟩<|⟨k3,Av _,x41.2.2.1,x41.2.2.2,v15,x42,v16,x43,w64 (x35+1),z,hC87,hL3⟩
   replace hL3:=AD hL3 hc5
   refine Bt (A1 (A1 (Be ?_)))
   obtain rfl:=Aa hL3
   have hC88:=hC61.f5
   have hC89:=hC88.f5
   have hC90:=hC89.f5
   have hC91:=hC90.f5
   have hC92:=hC91.f5
   have hC93:=hC92.h5
   exact Ak (l':=[(4,(ptr b1 0)),(5,(ptr b2 0))]) ⟨z,z,Ai⟩<|⟨x31,x32,v11,x33,v12,x34,z,z,hC93⟩
 rintro l9 _ w34 hs9 ⟨x36,x37,v13,x38,v14,x39,rfl,rfl,hC94⟩
 try dsimp only at hF
 refine AL hs9 ?_
 clear hs9
 refine Ad<|A9 [v13,v14] hC94 3 z z z AT A4 z z<|AO (cs':=[v13,v14]) (new:=[v13,v14]) hC94 4 z z (fac (Bz (hC94.ro 1 z))<|fac (Bz (hC94.ro 0 z))<|fa0) z A4 z z fun w35 hC95 hKp6=>?_
 try dsimp only [List.set] at hC95
 refine Ac (AP ?_)
 obtain rfl:=Aa hF
 refine fn_retG1 z (rv_cell_agg (cs':=[v13,v14]) hC95 (i:=4) z z z AT A4 z)<|have hC96:=hC95.f2;have hC98:=hC96.f1;have hC99:=hC98.f2;?_
 have hC97:=C1 v13 x38 v14 x39 hC99
 have hC100:=hC97.h2
 exact ⟨_,z,_,z,hC100⟩
theorem c_S_l5AnyMethod {w0:World} {Fs:List (List Nat)} (pb1:Nat) (a1:((List UInt8) × Int × Int)) (u1:Value) (g1:RO Fs.flatten w0 u1 a1.1) (a2:(List Int)) (u2:Value) (g2:RO Fs.flatten w0 u2 a2) (hH:Hold [Af pb1 [u1,(I a1.2.1),(I a1.2.2)]] w0 Fs) (hn:Fs.flatten.Nodup) (rr:((Int × (List Int) × Int × Int × Int) × ((List UInt8) × Int × Int))) (hF:S.l5AnyMethod a1 a2=some rr) :
 Calls Tryz.prog 129 [(ptr pb1 0),u2].toArray w0 fun e w'=>∃v,e=.returned v∧∃q0:Value,v=q0∧Ctx Fs.flatten w0 w' [Ab q0 (rr.1:(Int × (List Int) × Int × Int × Int)),Af pb1 [u1,(I rr.2.2.1),(I rr.2.2.2)]]:=by
 refine Au Tryz.func129 z z ?_
 have hC0:=BD hH hn
 unfold S.l5AnyMethod at hF
 refine Ad<|By hC0 zero71 z z fun b1 w1 hC1 hB1 hN1=>Ac<|Ad<|Ck (vs:=[(4,(I 1))]) z z z (built71_4 z)<|By hC1 zero71 z z fun b2 w2 hC2 hB2 hN2=>AO (cs':=[(I 0),(.slice none 0 0),(I 0),(I 0),(I 1)]) (new:=[(I 0),(.slice none 0 0),(I 0),(I 0),(I 1)]) hC2 0 z z (fac z<|fac z<|fac z<|fac z<|fac z<|fa0) z B8 z z fun w3 hC3 hKp1=>?_
 try dsimp only [List.set] at hC3
 have hk1:=AY ((Ap hB1).then hB2) (Bg (Ap hB1).size hN2) hKp1
 have hk2:=AY (Ap hB2) hN2 hKp1
 refine Ac<|A6<|Ad<|Ag z z<|be hF fun x1 hr1 hF=>cb Cu z z (c_S_IsSchema a2 u2 (g2.now hC3.keep) x1 hr1) fun w4 hB3=>have hC4:=hC3.grow hB3;Ac<|be hF fun r1 hr2 hF=>Bd (fun l w=>∃x2:Int,∃v1:Value,∃x3:(List Int),∃x4:Int,∃x5:Int,∃x6:Int,∃x7:Int,∃x8:Int,(x2,x3,x4,x5,x6,x7,x8)=r1∧l=[(0,(ptr pb1 0)),(4,(ptr b1 0)),(5,(ptr b2 0))]∧Ctx Fs.flatten w0 w [Ab v1 (x3:(List Int)),Af b2 [(I x2),v1,(I x4),(I x5),(I x6)],Af b1 [(I 0),(.slice none 0 0),(I 0),(I 0),(I 0)],Af pb1 [u1,(I x7),(I x8)]]) ?_ ?_
 ·refine AI z (fun hc1=>?_) (fun hc1=>?_)
  ·replace hr2:=AC hr2 hc1
   refine Bb<|Ag z z<|Ag z z<|be hr2 fun x9 hr3 hr2=>have hC6:=hC4.f2;?_
   obtain ⟨Fs1,hH1,hn1,hF1,hO1,hb1⟩:=AW (As:=[Af b2 [(I 0),(.slice none 0 0),(I 0),(I 0),(I 1)],Af b1 [(I 0),(.slice none 0 0),(I 0),(I 0),(I 0)]]) [Af pb1 [u1,(I a1.2.1),(I a1.2.2)]] hC6
   refine A7 Tryz.call153 z z (c_S_l5Method pb1 (a1.1,a1.2.1,a1.2.2) u1 (Bf g1 hC6.keep hF1) a2 u2 (Bf g2 hC6.keep hF1) hH1 hn1 x9 hr3) ?_
   rintro v2 w6 ⟨_,rfl,hq1⟩
   have hC7:Ctx Fs.flatten w0 w6 [Ab v2 (x9.1:(Int × (List Int) × Int × Int × Int)),Af pb1 [u1,(I x9.2.2.1),(I x9.2.2.2)],Af b2 [(I 0),(.slice none 0 0),(I 0),(I 0),(I 1)],Af b1 [(I 0),(.slice none 0 0),(I 0),(I 0),(I 0)]]:=hb1 _ _ hq1
   obtain ⟨v3,rfl,hC8⟩:=st71_own hC7
   refine AO (cs':=[(I x9.1.1),v3,(I x9.1.2.2.1),(I x9.1.2.2.2.1),(I x9.1.2.2.2.2)]) (new:=[(I x9.1.1),v3,(I x9.1.2.2.1),(I x9.1.2.2.2.1),(I x9.1.2.2.2.2)]) hC8 2 z z (fac z<|fac (Bz (hC8.ro 0 z))<|fac z<|fac z<|fac z<|fa0) z B8 z z (fun w7 hC9 hKp2=>?_)
   try dsimp only [List.set] at hC9
   refine Ac ?_
   obtain rfl:=Aa hr2
   have hC10:=hC9.f1
   have hC11:=hC10.f3
   have hC12:=hC11.f3
   have hC13:=hC12.f3
   exact Ak (l':=[(0,(ptr pb1 0)),(4,(ptr b1 0)),(5,(ptr b2 0))]) ⟨z,z,z,Ai⟩<|⟨x9.1.1,v3,x9.1.2.1,x9.1.2.2.1,x9.1.2.2.2.1,x9.1.2.2.2.2,x9.2.2.1,x9.2.2.2,z,z,hC13⟩
  replace hr2:=AD hr2 hc1
  refine AJ ?_
  obtain rfl:=Aa hr2
  have hC14:=hC4.triv (nil_val (α:=Int))
  exact Ak (l':=[(0,(ptr pb1 0)),(4,(ptr b1 0)),(5,(ptr b2 0))]) ⟨z,z,z,Ai⟩<|⟨0,(.slice none 0 0),[],0,0,1,a1.2.1,a1.2.2,z,z,hC14⟩
 rintro l1 _ w5 hs1 ⟨x2,v1,x3,x4,x5,x6,x7,x8,rfl,rfl,hC5⟩
 try dsimp only at hF
 refine AL hs1 ?_
 clear hs1
 refine A6<|Ad<|Ag z z<|be hF fun x10 hr4 hF=>have hC15:=hC5.f3;?_
 obtain ⟨Fs2,hH2,hn2,hF2,hO2,hb2⟩:=AW (As:=[Ab v1 (x3:(List Int)),Af b2 [(I x2),v1,(I x4),(I x5),(I x6)],Af b1 [(I 0),(.slice none 0 0),(I 0),(I 0),(I 0)]]) [Af pb1 [u1,(I x7),(I x8)]] hC15
 refine A7 B2 z z (c_S_l1Below pb1 (a1.1,x7,x8) u1 (Bf g1 hC15.keep hF2) 10 hH2 hn2 x10 hr4) ?_
 rintro _ w9 ⟨rfl,hq4⟩
 have hC16:Ctx Fs.flatten w0 w9 [Af pb1 [u1,(I x10.2.2.1),(I x10.2.2.2)],Ab v1 (x3:(List Int)),Af b2 [(I x2),v1,(I x4),(I x5),(I x6)],Af b1 [(I 0),(.slice none 0 0),(I 0),(I 0),(I 0)]]:=hb2 _ _ hq4
 refine Ac<|AH<|Ad<|BT z z z<|Ae z z<|Ac<|be hF fun r2 hr5 hF=>Bd (fun l w=>∃x11:Int,∃x12:Int,∃x13:Int,∃v4:Value,∃x14:(List Int),∃x15:Int,∃x16:Int,∃x17:Int,(x11,x12,x13,x14,x15,x16,x17)=r2∧l=[(4,(ptr b1 0)),(5,(ptr b2 0))]∧Ctx Fs.flatten w0 w [Af pb1 [u1,(I x11),(I x12)],Ab v4 (x14:(List Int)),Af b2 [(I x13),v4,(I x15),(I x16),(I x17)],Af b1 [(I 0),(.slice none 0 0),(I 0),(I 0),(I 0)]]) ?_ ?_
 ·refine AI z (fun hc2=>?_) (fun hc2=>?_)
  ·replace hr5:=AC hr5 hc2
   refine Bb<|Ag z z<|A2 (vs:=[(I (-1)),(I 9),(I 10)]) hC16 Ah ty3 z z z z (fac z<|fac z<|fac z<|fa0) z z fun b3 w11 hC18 hB6=>?_
   have hC19:=hC18.row0 (α:=Int)
   have hC20:=hC19.triv (Bm (10))
   have hC21:=hC20.row1
   have hC22:=hC21.triv (Bm (9))
   have hC23:=hC22.row1
   have hC24:=hC23.triv (Bm ((-1)))
   have hC25:=hC24.row1
   have hC26:=hC25.front 1 z
   dsimp only [List.eraseIdx,List.cons_append,List.nil_append,List.append_nil] at hC26
   have hC27:Ctx Fs.flatten w0 w11 (Ab (.slice (some ⟨b3,0,none⟩) 3 3) ([(-1),9,10]:List Int)::[Af pb1 [u1,(I x10.2.2.1),(I x10.2.2.2)],Ab v1 (x3:(List Int)),Af b2 [(I x2),v1,(I x4),(I x5),(I x6)],Af b1 [(I 0),(.slice none 0 0),(I 0),(I 0),(I 0)]]):=hC26.rowOwn (by simp [maxLen])
   refine be hr5 fun x18 hr6 hr5=>have hC28:=hC27.f1;?_
   obtain ⟨Fs3,hH3,hn3,hF3,hO3,hb3⟩:=AW (As:=[Ab (.slice (some ⟨b3,0,none⟩) 3 3) ([(-1),9,10]:(List Int)),Ab v1 (x3:(List Int)),Af b2 [(I x2),v1,(I x4),(I x5),(I x6)],Af b1 [(I 0),(.slice none 0 0),(I 0),(I 0),(I 0)]]) [Af pb1 [u1,(I x10.2.2.1),(I x10.2.2.2)]] hC28
   refine A7 BG z z (c_S_l1PickInt pb1 (a1.1,x10.2.2.1,x10.2.2.2) u1 (Bf g1 hC28.keep hF3) ([(-1),9,10]) (.slice (some ⟨b3,0,none⟩) 3 3) (hO3 0 _ _ _ z) hH3 hn3 x18 hr6) ?_
   rintro _ w12 ⟨rfl,hq5⟩
   have hC29:Ctx Fs.flatten w0 w12 [Af pb1 [u1,(I x18.2.2.1),(I x18.2.2.2)],Ab (.slice (some ⟨b3,0,none⟩) 3 3) ([(-1),9,10]:(List Int)),Ab v1 (x3:(List Int)),Af b2 [(I x2),v1,(I x4),(I x5),(I x6)],Af b1 [(I 0),(.slice none 0 0),(I 0),(I 0),(I 0)]]:=hb3 _ _ hq5
   refine fd AN AE z z z z<|B3 (cs':=[(I x2),v1,(I x18.1),(I x5),(I x6)]) hC29 3 z z z z AE z z fun w13 hC30 hKp3=>?_
   try dsimp only [List.set] at hC30
   refine Ac ?_
   obtain rfl:=Aa hr5
   have hC31:=hC30.f4
   have hC32:=hC31.f4
   have hC33:=hC32.f4
   have hC34:=hC33.f3
   have hC35:=hC34.h4
   exact Ak (l':=[(4,(ptr b1 0)),(5,(ptr b2 0))]) ⟨z,z,Ai⟩<|⟨x18.2.2.1,x18.2.2.2,x2,v1,x3,x18.1,x5,x6,z,z,hC35⟩
  replace hr5:=AD hr5 hc2
  refine Ad<|BT z z z<|Ae z z<|Ac<|be hr5 fun r3 hr7 hr5=>Bd (fun l w=>∃x19:Int,∃x20:Int,∃x21:Int,∃v5:Value,∃x22:(List Int),∃x23:Int,∃x24:Int,∃x25:Int,(x19,x20,x21,x22,x23,x24,x25)=r3∧l=[(4,(ptr b1 0)),(5,(ptr b2 0))]∧Ctx Fs.flatten w0 w [Af pb1 [u1,(I x19),(I x20)],Ab v5 (x22:(List Int)),Af b2 [(I x21),v5,(I x23),(I x24),(I x25)],Af b1 [(I 0),(.slice none 0 0),(I 0),(I 0),(I 0)]]) ?_ ?_
  ·refine AI z (fun hc3=>?_) (fun hc3=>?_)
   ·replace hr7:=AC hr7 hc3
    refine be hr7 fun r4 hr8 hr7=>Bd (fun l w=>∃x26:Int,∃x27:Int,∃x28:Int,∃v6:Value,∃x29:(List Int),∃x30:Int,∃x31:Int,∃x32:Int,(x26,x27,x28,x29,x30,x31,x32)=r4∧l=[(4,(ptr b1 0)),(5,(ptr b2 0))]∧Ctx Fs.flatten w0 w [Af pb1 [u1,(I x26),(I x27)],Ab v6 (x29:(List Int)),Af b2 [(I x28),v6,(I x30),(I x31),(I x32)],Af b1 [(I 0),(.slice none 0 0),(I 0),(I 0),(I 0)]]) ?_ ?_
    ·refine B1 9 z hmix fun w16 hB9=>have hC38:=hC16.grow hB9;tf 0 AN Aw z z z z z<|tm 2 z z z<|BM (i:=1) (j:=3) (by kernel_rfl) z z ?_ ?_
     ·refine Ao hC38 2 z z AQ z z<|Ac<|be hr8 fun x33 hr9 hr8=>oe 3 z<|?_
      obtain ⟨Fs4,hH4,hn4,hF4,hO4,hb4⟩:=AW (As:=[Ab v1 (x3:(List Int)),Af b2 [(I x2),v1,(I x4),(I x5),(I x6)],Af b1 [(I 0),(.slice none 0 0),(I 0),(I 0),(I 0)]]) [Af pb1 [u1,(I x10.2.2.1),(I x10.2.2.2)]] hC38
      refine A7 B2 z z (c_S_l1Below pb1 (a1.1,x10.2.2.1,x10.2.2.2) u1 (Bf g1 hC38.keep hF4) 5 hH4 hn4 x33 hr9) ?_
      rintro _ w17 ⟨rfl,hq7⟩
      have hC39:Ctx Fs.flatten w0 w17 [Af pb1 [u1,(I x33.2.2.1),(I x33.2.2.2)],Ab v1 (x3:(List Int)),Af b2 [(I x2),v1,(I x4),(I x5),(I x6)],Af b1 [(I 0),(.slice none 0 0),(I 0),(I 0),(I 0)]]:=hb4 _ _ hq7
      refine Ac<|tk 4 z z (C3 z z)<|BN z z z<|Ac<|oe 5 z<|A2 (vs:=[(I (w64 (x33.1 - 1)))]) hC39 Ah ty3 z z z z (fac z<|fa0) z z fun b4 w18 hC40 hB10=>?_
      have hC41:=hC40.row0 (α:=Int)
      have hC42:=hC41.triv (Bm (w64 (x33.1 - 1)))
      have hC43:=hC42.row1
      have hC44:=hC43.front 1 z
      dsimp only [List.eraseIdx,List.cons_append,List.nil_append,List.append_nil] at hC44
      have hC45:Ctx Fs.flatten w0 w18 (Ab (.slice (some ⟨b4,0,none⟩) 1 1) ([w64 (x33.1 - 1)]:List Int)::[Af pb1 [u1,(I x33.2.2.1),(I x33.2.2.2)],Ab v1 (x3:(List Int)),Af b2 [(I x2),v1,(I x4),(I x5),(I x6)],Af b1 [(I 0),(.slice none 0 0),(I 0),(I 0),(I 0)]]):=hC44.rowOwn (by simp [maxLen])
      refine Ac<|be hr8 fun x34 hx1 hr8=>oe 6 z<|Bi (α:=Int) hC45 2 z (hC45.ro 0 z) (Aq _ _) Ah ty3 z hx1 z z z fun v7 w19 hC46=>?_
      try dsimp only [List.set] at hC46
      refine Ac<|tf 7 AN Aw z z z z z<|oe 8 z<|B3 (cs':=[(I x2),v7,(I x4),(I x5),(I x6)]) hC46 3 z z (Bz (hC46.ro 2 z)) z Aw z z fun w20 hC47 hKp4=>?_
      try dsimp only [List.set] at hC47
      refine Ac<|dn<|?_
      obtain rfl:=Aa hr8
      have hC48:=hC47.f4
      have hC49:=hC48.f4
      have hC50:=hC49.f4
      have hC51:=hC50.f4
      have hC52:=hC51.h4
      exact Ak (l':=[(4,(ptr b1 0)),(5,(ptr b2 0))]) ⟨z,z,Ai⟩<|⟨x33.2.2.1,x33.2.2.2,x2,v7,x34,x4,x5,x6,z,z,hC52⟩
     obtain ⟨x33,hr9,hr8⟩:=BX hr8
     obtain ⟨Fs4,hH4,hn4,hF4,hO4,hb4⟩:=AW (As:=[Ab v1 (x3:(List Int)),Af b2 [(I x2),v1,(I x4),(I x5),(I x6)],Af b1 [(I 0),(.slice none 0 0),(I 0),(I 0),(I 0)]]) [Af pb1 [u1,(I x10.2.2.1),(I x10.2.2.2)]] hC38
     refine A7 B2 z z (c_S_l1Below pb1 (a1.1,x10.2.2.1,x10.2.2.2) u1 (Bf g1 hC38.keep hF4) 5 hH4 hn4 x33 hr9) ?_
     rintro _ w17 ⟨rfl,hq7⟩
     have hC39:Ctx Fs.flatten w0 w17 [Af pb1 [u1,(I x33.2.2.1),(I x33.2.2.2)],Ab v1 (x3:(List Int)),Af b2 [(I x2),v1,(I x4),(I x5),(I x6)],Af b1 [(I 0),(.slice none 0 0),(I 0),(I 0),(I 0)]]:=hb4 _ _ hq7
     refine Ac<|tk 4 z z (C3 z z)<|BN z z z<|Ac<|wAS (l':=[(0,(ptr pb1 0)),(4,(ptr b1 0)),(5,(ptr b2 0)),(12,(ptr pb1 0)),(13,(I x10.1)),(14,(.bool (decide (x10.1=0)))),(15,(.bool (decide (x10.1=0)))),(20,(.bool (decide (x10.1=1)))),(21,(.bool (decide (x10.1=1)))),(22,(ptr b2 1)),(24,(ptr pb1 0)),(25,(I x33.1)),(26,(I (w64 (x33.1 - 1))))]) ⟨z,z,z,z,z,z,z,z,z,z,z,z,z,Ai⟩<|Bw [⟨1,[],fun vs=>Bh v1,[]⟩,⟨5,[],fun vs=>PW.own ([w64 (x33.1 - 1)]:(List Int)),[]⟩] [[],[]] 3 z (by kernel_rfl) (by kernel_rfl) z ?_ ?_
     ·refine An z ?_ ?_
      ·intro w19 hB11
       refine Ar<|⟨_,z,?_⟩
       exact Ao (hC39.grow hB11) 2 z z AQ z z<|Ac<|Ay (Al _ _) z z ⟨z,z⟩
      refine An z ?_ ?_
      ·intro w19 hB11
       refine Ar<|⟨_,z,?_⟩
       refine A2 (vs:=[(I (w64 (x33.1 - 1)))]) (AA w19) Ah ty3 z z z z (fac z<|fa0) z z (fun b4 w18 hC40 hB10=>?_)
       have hC41:=hC40.row0 (α:=Int)
       have hC42:=hC41.triv (Bm (w64 (x33.1 - 1)))
       have hC43:=hC42.row1
       have hC44:=hC43.front 1 z
       dsimp only [List.eraseIdx,List.cons_append,List.nil_append,List.append_nil] at hC44
       have hC45:Ctx [] w19 w18 (Ab (.slice (some ⟨b4,0,none⟩) 1 1) ([w64 (x33.1 - 1)]:List Int)::[]):=hC44.rowOwn (by simp [maxLen])
       exact Ac<|FinE_ctx hC45 z z (fun F h=>h)
      exact Bp
     intro w20 hB12
     refine At z z z ?_
     rintro _ _ ⟨rfl,rfl⟩
     refine At z z z fun v7 F1 hv2=>B0 fun hn5 hb5=>?_
     have hC46:=hC39.pushL hB12 (Bs:=[Ab v7 ([w64 (x33.1 - 1)]:(List Int))]) (Fs:=[F1]) ⟨F1,_,z,hv2,z⟩ (by simpa using hn5) (fun b h=>(hb5 b (by simpa using h)).1)
     refine be hr8 fun x34 hx1 hr8=>oe 6 z<|Bi (α:=Int) hC46 2 z (hC46.ro 0 z) (Aq _ _) Ah ty3 z hx1 z z z fun v8 w21 hC47=>?_
     try dsimp only [List.set] at hC47
     refine Ac<|tf 7 AN Aw z z z z z<|oe 8 z<|B3 (cs':=[(I x2),v8,(I x4),(I x5),(I x6)]) hC47 3 z z (Bz (hC47.ro 2 z)) z Aw z z fun w22 hC48 hKp4=>?_
     try dsimp only [List.set] at hC48
     refine Ac<|dn<|?_
     obtain rfl:=Aa hr8
     have hC49:=hC48.f4
     have hC50:=hC49.f4
     have hC51:=hC50.f4
     have hC52:=hC51.f4
     have hC53:=hC52.h4
     exact Ak (l':=[(4,(ptr b1 0)),(5,(ptr b2 0))]) ⟨z,z,Ai⟩<|⟨x33.2.2.1,x33.2.2.2,x2,v8,x34,x4,x5,x6,z,z,hC53⟩
    rintro l4 _ w15 hs4 ⟨x26,x27,x28,v6,x29,x30,x31,x32,rfl,rfl,hC37⟩
    try dsimp only at hr7
    obtain rfl:=Aa hr7
    exact Cn (l2:=[(4,(ptr b1 0)),(5,(ptr b2 0))]) hs4 ⟨z,z,Ai⟩<|⟨x26,x27,x28,v6,x29,x30,x31,x32,z,z,hC37⟩
   replace hr7:=AD hr7 hc3
   refine Ad<|BT z z z<|Ae z z<|Ac<|be hr7 fun r5 hr10 hr7=>Bd (fun l w=>∃x35:Int,∃x36:Int,∃x37:Int,∃v9:Value,∃x38:(List Int),∃x39:Int,∃x40:Int,∃x41:Int,(x35,x36,x37,x38,x39,x40,x41)=r5∧l=[(4,(ptr b1 0)),(5,(ptr b2 0))]∧Ctx Fs.flatten w0 w [Af pb1 [u1,(I x35),(I x36)],Ab v9 (x38:(List Int)),Af b2 [(I x37),v9,(I x39),(I x40),(I x41)],Af b1 [(I 0),(.slice none 0 0),(I 0),(I 0),(I 0)]]) ?_ ?_
   ·refine AI z (fun hc4=>?_) (fun hc4=>?_)
    ·replace hr10:=AC hr10 hc4
     refine Bb<|Ag z z<|A2 (vs:=[(I 0),(I 99),(I 100)]) hC16 Ah ty3 z z z z (fac z<|fac z<|fac z<|fa0) z z fun b5 w24 hC55 hB14=>?_
     have hC56:=hC55.row0 (α:=Int)
     have hC57:=hC56.triv (Bm (100))
     have hC58:=hC57.row1
     have hC59:=hC58.triv (Bm (99))
     have hC60:=hC59.row1
     have hC61:=hC60.triv (Bm (0))
     have hC62:=hC61.row1
     have hC63:=hC62.front 1 z
     dsimp only [List.eraseIdx,List.cons_append,List.nil_append,List.append_nil] at hC63
     have hC64:Ctx Fs.flatten w0 w24 (Ab (.slice (some ⟨b5,0,none⟩) 3 3) ([0,99,100]:List Int)::[Af pb1 [u1,(I x10.2.2.1),(I x10.2.2.2)],Ab v1 (x3:(List Int)),Af b2 [(I x2),v1,(I x4),(I x5),(I x6)],Af b1 [(I 0),(.slice none 0 0),(I 0),(I 0),(I 0)]]):=hC63.rowOwn (by simp [maxLen])
     refine be hr10 fun x42 hr11 hr10=>have hC65:=hC64.f1;?_
     obtain ⟨Fs5,hH5,hn6,hF5,hO5,hb6⟩:=AW (As:=[Ab (.slice (some ⟨b5,0,none⟩) 3 3) ([0,99,100]:(List Int)),Ab v1 (x3:(List Int)),Af b2 [(I x2),v1,(I x4),(I x5),(I x6)],Af b1 [(I 0),(.slice none 0 0),(I 0),(I 0),(I 0)]]) [Af pb1 [u1,(I x10.2.2.1),(I x10.2.2.2)]] hC65
     refine A7 BG z z (c_S_l1PickInt pb1 (a1.1,x10.2.2.1,x10.2.2.2) u1 (Bf g1 hC65.keep hF5) ([0,99,100]) (.slice (some ⟨b5,0,none⟩) 3 3) (hO5 0 _ _ _ z) hH5 hn6 x42 hr11) ?_
     rintro _ w25 ⟨rfl,hq10⟩
     have hC66:Ctx Fs.flatten w0 w25 [Af pb1 [u1,(I x42.2.2.1),(I x42.2.2.2)],Ab (.slice (some ⟨b5,0,none⟩) 3 3) ([0,99,100]:(List Int)),Ab v1 (x3:(List Int)),Af b2 [(I x2),v1,(I x4),(I x5),(I x6)],Af b1 [(I 0),(.slice none 0 0),(I 0),(I 0),(I 0)]]:=hb6 _ _ hq10
     refine fd AN AE z z z z<|B3 (cs':=[(I x2),v1,(I x4),(I x5),(I x42.1)]) hC66 3 z z z z AE z z fun w26 hC67 hKp5=>?_
     try dsimp only [List.set] at hC67
     refine Ac ?_
     obtain rfl:=Aa hr10
     have hC68:=hC67.f4
     have hC69:=hC68.f4
     have hC70:=hC69.f4
     have hC71:=hC70.f3
     have hC72:=hC71.h4
     exact Ak (l':=[(4,(ptr b1 0)),(5,(ptr b2 0))]) ⟨z,z,Ai⟩<|⟨x42.2.2.1,x42.2.2.2,x2,v1,x3,x4,x5,x42.1,z,z,hC72⟩
    replace hr10:=AD hr10 hc4
    refine Ad<|BT z z z<|Ae z z<|Ac<|be hr10 fun r6 hr12 hr10=>Bd (fun l w=>∃x43:Int,∃x44:Int,∃x45:Int,∃v10:Value,∃x46:(List Int),∃x47:Int,∃x48:Int,∃x49:Int,(x43,x44,x45,x46,x47,x48,x49)=r6∧l=[(4,(ptr b1 0)),(5,(ptr b2 0))]∧Ctx Fs.flatten w0 w [Af pb1 [u1,(I x43),(I x44)],Ab v10 (x46:(List Int)),Af b2 [(I x45),v10,(I x47),(I x48),(I x49)],Af b1 [(I 0),(.slice none 0 0),(I 0),(I 0),(I 0)]]) ?_ ?_
    ·refine AI z (fun hc5=>?_) (fun hc5=>?_)
     ·replace hr12:=AC hr12 hc5
      refine Bb<|Ag z z<|A2 (vs:=[(I (-1)),(I 99),(I 100)]) hC16 Ah ty3 z z z z (fac z<|fac z<|fac z<|fa0) z z fun b6 w28 hC74 hB16=>?_
      have hC75:=hC74.row0 (α:=Int)
      have hC76:=hC75.triv (Bm (100))
      have hC77:=hC76.row1
      have hC78:=hC77.triv (Bm (99))
      have hC79:=hC78.row1
      have hC80:=hC79.triv (Bm ((-1)))
      have hC81:=hC80.row1
      have hC82:=hC81.front 1 z
      dsimp only [List.eraseIdx,List.cons_append,List.nil_append,List.append_nil] at hC82
      have hC83:Ctx Fs.flatten w0 w28 (Ab (.slice (some ⟨b6,0,none⟩) 3 3) ([(-1),99,100]:List Int)::[Af pb1 [u1,(I x10.2.2.1),(I x10.2.2.2)],Ab v1 (x3:(List Int)),Af b2 [(I x2),v1,(I x4),(I x5),(I x6)],Af b1 [(I 0),(.slice none 0 0),(I 0),(I 0),(I 0)]]):=hC82.rowOwn (by simp [maxLen])
      refine be hr12 fun x50 hr13 hr12=>have hC84:=hC83.f1;?_
      obtain ⟨Fs6,hH6,hn7,hF6,hO6,hb7⟩:=AW (As:=[Ab (.slice (some ⟨b6,0,none⟩) 3 3) ([(-1),99,100]:(List Int)),Ab v1 (x3:(List Int)),Af b2 [(I x2),v1,(I x4),(I x5),(I x6)],Af b1 [(I 0),(.slice none 0 0),(I 0),(I 0),(I 0)]]) [Af pb1 [u1,(I x10.2.2.1),(I x10.2.2.2)]] hC84
      refine A7 BG z z (c_S_l1PickInt pb1 (a1.1,x10.2.2.1,x10.2.2.2) u1 (Bf g1 hC84.keep hF6) ([(-1),99,100]) (.slice (some ⟨b6,0,none⟩) 3 3) (hO6 0 _ _ _ z) hH6 hn7 x50 hr13) ?_
      rintro _ w29 ⟨rfl,hq12⟩
      have hC85:Ctx Fs.flatten w0 w29 [Af pb1 [u1,(I x50.2.2.1),(I x50.2.2.2)],Ab (.slice (some ⟨b6,0,none⟩) 3 3) ([(-1),99,100]:(List Int)),Ab v1 (x3:(List Int)),Af b2 [(I x2),v1,(I x4),(I x5),(I x6)],Af b1 [(I 0),(.slice none 0 0),(I 0),(I 0),(I 0)]]:=hb7 _ _ hq12
      refine fd AN AE z z z z<|B3 (cs':=[(I x2),v1,(I x4),(I x50.1),(I x6)]) hC85 3 z z z z AE z z fun w30 hC86 hKp6=>?_
      try dsimp only [List.set] at hC86
      refine Ac ?_
      obtain rfl:=Aa hr12
      have hC87:=hC86.f4
      have hC88:=hC87.f4
      have hC89:=hC88.f4
      have hC90:=hC89.f3
      have hC91:=hC90.h4
      exact Ak (l':=[(4,(ptr b1 0)),(5,(ptr b2 0))]) ⟨z,z,Ai⟩<|⟨x50.2.2.1,x50.2.2.2,x2,v1,x3,x4,x50.1,x6,z,z,hC91⟩
     replace hr12:=AD hr12 hc5
     refine AJ ?_
     obtain rfl:=Aa hr12
     exact Ak (l':=[(4,(ptr b1 0)),(5,(ptr b2 0))]) ⟨z,z,Ai⟩<|⟨x10.2.2.1,x10.2.2.2,x2,v1,x3,x4,x5,x6,z,z,hC16⟩
    rintro l6 _ w27 hs6 ⟨x43,x44,x45,v10,x46,x47,x48,x49,rfl,rfl,hC73⟩
    try dsimp only at hr10
    obtain rfl:=Aa hr10
    exact Cn (l2:=[(4,(ptr b1 0)),(5,(ptr b2 0))]) hs6 ⟨z,z,Ai⟩<|⟨x43,x44,x45,v10,x46,x47,x48,x49,z,z,hC73⟩
   rintro l5 _ w23 hs5 ⟨x35,x36,x37,v9,x38,x39,x40,x41,rfl,rfl,hC54⟩
   try dsimp only at hr7
   obtain rfl:=Aa hr7
   exact Cn (l2:=[(4,(ptr b1 0)),(5,(ptr b2 0))]) hs5 ⟨z,z,Ai⟩<|⟨x35,x36,x37,v9,x38,x39,x40,x41,z,z,hC54⟩
  rintro l3 _ w14 hs3 ⟨x19,x20,x21,v5,x22,x23,x24,x25,rfl,rfl,hC36⟩
  try dsimp only at hr5
  obtain rfl:=Aa hr5
  exact Cn (l2:=[(4,(ptr b1 0)),(5,(ptr b2 0))]) hs3 ⟨z,z,Ai⟩<|⟨x19,x20,x21,v5,x22,x23,x24,x25,z,z,hC36⟩
 rintro l2 _ w10 hs2 ⟨x11,x12,x13,v4,x14,x15,x16,x17,rfl,rfl,hC17⟩
 try dsimp only at hF
 refine AM<|AL hs2<|?_
 clear hs2
 refine Ad<|A9 [(I x13),v4,(I x15),(I x16),(I x17)] hC17 2 z z z BU B8 z z<|AO (cs':=[(I x13),v4,(I x15),(I x16),(I x17)]) (new:=[(I x13),v4,(I x15),(I x16),(I x17)]) hC17 3 z z (fac z<|fac (Bz (hC17.ro 1 z))<|fac z<|fac z<|fac z<|fa0) z B8 z z fun w31 hC92 hKp7=>?_
 try dsimp only [List.set] at hC92
 refine Ac (AP ?_)
 obtain rfl:=Aa hF
 refine fn_retG1 z (rv_cell_agg (cs':=[(I x13),v4,(I x15),(I x16),(I x17)]) hC92 (i:=3) z z z BU B8 z)<|have hC94:=hC92.f1;?_
 have hC93:=own_st71 x13 v4 x14 x15 x16 x17 hC94
 have hC95:=hC93.h2
 exact ⟨_,z,_,z,hC95⟩
theorem c_S_l3Any {w0:World} {Fs:List (List Nat)} (pb1:Nat) (a1:((List UInt8) × Int × Int)) (u1:Value) (g1:RO Fs.flatten w0 u1 a1.1) (a2:(List Int)) (u2:Value) (g2:RO Fs.flatten w0 u2 a2) (hH:Hold [Af pb1 [u1,(I a1.2.1),(I a1.2.2)]] w0 Fs) (hn:Fs.flatten.Nodup) (rr:(((List Int) × (List (Int × (List Int)))) × ((List UInt8) × Int × Int))) (hF:S.l3Any a1 a2=some rr) :
 Calls Tryz.prog 130 [(ptr pb1 0),u2].toArray w0 fun e w'=>∃v,e=.returned v∧∃q0:Value,v=q0∧Ctx Fs.flatten w0 w' [Ab q0 (rr.1:((List Int) × (List (Int × (List Int))))),Af pb1 [u1,(I rr.2.2.1),(I rr.2.2.2)]]:=by
 refine Au Tryz.func130 z z ?_
 have hC0:=BD hH hn
 unfold S.l3Any at hF
 refine Ad<|By hC0 zero37 z z fun b1 w1 hC1 hB1 hN1=>Ac<|Ad<|A2 (vs:=[(I 10)]) hC1 Ah ty3 z z z z (fac z<|fa0) z z fun b2 w2 hC2 hB2=>?_
 have hC3:=hC2.row0 (α:=Int)
 have hC4:=hC3.triv (Bm (10))
 have hC5:=hC4.row1
 have hC6:=hC5.front 1 z
 dsimp only [List.eraseIdx,List.cons_append,List.nil_append,List.append_nil] at hC6
 have hC7:Ctx Fs.flatten w0 w2 (Ab (.slice (some ⟨b2,0,none⟩) 1 1) ([10]:List Int)::[Af b1 [(.slice none 0 0),(.slice none 0 0)],Af pb1 [u1,(I a1.2.1),(I a1.2.2)]]):=hC6.rowOwn (by simp [maxLen])
 refine Ck (vs:=[(1,(.slice (some ⟨b2,0,none⟩) 1 1))]) z z z (built84_1 (Cj (hC7.ro 0 z)))<|A2 (vs:=[(.agg #[(I 0),(.slice (some ⟨b2,0,none⟩) 1 1)])]) hC7 Ax ty84 z z z z (fac z<|fa0) z z fun b3 w3 hC8 hB3=>?_
 have hC9:=hC8.row0 (α:=(Int × (List Int)))
 have hC11:=hC9.f2
 have hC10:=Cv 0 (.slice (some ⟨b2,0,none⟩) 1 1) ([10]) hC11
 have hC12:=hC10.row1
 have hC13:=hC12.front 1 z
 dsimp only [List.eraseIdx,List.cons_append,List.nil_append,List.append_nil] at hC13
 have hC14:Ctx Fs.flatten w0 w3 (Ab (.slice (some ⟨b3,0,none⟩) 1 1) ([(0,[10])]:List (Int × (List Int)))::[Af b1 [(.slice none 0 0),(.slice none 0 0)],Af pb1 [u1,(I a1.2.1),(I a1.2.2)]]):=hC13.rowOwn (by simp [maxLen])
 refine Ck (vs:=[(1,(.slice (some ⟨b3,0,none⟩) 1 1))]) z z z (built37_1 (Cj (hC14.ro 0 z)))<|By hC14 zero37 z z fun b4 w4 hC15 hB4 hN2=>AO (cs':=[(.slice none 0 0),(.slice (some ⟨b3,0,none⟩) 1 1)]) (new:=[(.slice none 0 0),(.slice (some ⟨b3,0,none⟩) 1 1)]) hC15 0 z z (fac z<|fac (Bz (hC15.ro 1 z))<|fa0) z A4 z z fun w5 hC16 hKp1=>?_
 try dsimp only [List.set] at hC16
 have hk1:=AY ((((Ap hB1).then hB2).then hB3).then hB4) (Bg (((Ap hB1).then hB2).then hB3).size hN2) hKp1
 have hk2:=AY (((Ap hB2).then hB3).then hB4) (Bg ((Ap hB2).then hB3).size hN2) hKp1
 have hk3:=AY ((Ap hB3).then hB4) (Bg (Ap hB3).size hN2) hKp1
 have hk4:=AY (Ap hB4) hN2 hKp1
 refine Ac<|A6<|Ad<|Ag z z<|be hF fun x1 hr1 hF=>cb Cu z z (c_S_IsSchema a2 u2 (g2.now hC16.keep) x1 hr1) fun w6 hB5=>have hC17:=hC16.grow hB5;Ac<|be hF fun r1 hr2 hF=>Bd (fun l w=>∃v1:Value,∃x2:(List Int),∃v2:Value,∃x3:(List (Int × (List Int))),∃x4:Int,∃x5:Int,(x2,x3,x4,x5)=r1∧l=[(0,(ptr pb1 0)),(4,(ptr b1 0)),(5,(ptr b4 0))]∧Ctx Fs.flatten w0 w [Ab v1 (x2:(List Int)),Af b4 [v1,v2],Ab v2 (x3:(List (Int × (List Int)))),Af b1 [(.slice none 0 0),(.slice none 0 0)],Af pb1 [u1,(I x4),(I x5)]]) ?_ ?_
 ·refine AI z (fun hc1=>?_) (fun hc1=>?_)
  ·replace hr2:=AC hr2 hc1
   refine Bb<|Ag z z<|Ag z z<|be hr2 fun x6 hr3 hr2=>have hC19:=hC17.f3;?_
   obtain ⟨Fs1,hH1,hn1,hF1,hO1,hb1⟩:=AW (As:=[Af b4 [(.slice none 0 0),(.slice (some ⟨b3,0,none⟩) 1 1)],Ab (.slice (some ⟨b3,0,none⟩) 1 1) ([(0,[10])]:(List (Int × (List Int)))),Af b1 [(.slice none 0 0),(.slice none 0 0)]]) [Af pb1 [u1,(I a1.2.1),(I a1.2.2)]] hC19
   refine A7 Tryz.call128 z z (c_S_l3Query pb1 (a1.1,a1.2.1,a1.2.2) u1 (Bf g1 hC19.keep hF1) a2 u2 (Bf g2 hC19.keep hF1) hH1 hn1 x6 hr3) ?_
   rintro v3 w9 ⟨_,rfl,hq1⟩
   have hC20:Ctx Fs.flatten w0 w9 [Ab v3 (x6.1:((List Int) × (List (Int × (List Int))))),Af pb1 [u1,(I x6.2.2.1),(I x6.2.2.2)],Af b4 [(.slice none 0 0),(.slice (some ⟨b3,0,none⟩) 1 1)],Ab (.slice (some ⟨b3,0,none⟩) 1 1) ([(0,[10])]:(List (Int × (List Int)))),Af b1 [(.slice none 0 0),(.slice none 0 0)]]:=hb1 _ _ hq1
   obtain ⟨v4,v5,rfl,hC21⟩:=st37_own hC20
   refine AO (cs':=[v4,v5]) (new:=[v4,v5]) hC21 3 z z (fac (Bz (hC21.ro 0 z))<|fac (Bz (hC21.ro 1 z))<|fa0) z A4 z z (fun w10 hC22 hKp2=>?_)
   try dsimp only [List.set] at hC22
   refine Ac ?_
   obtain rfl:=Aa hr2
   have hC23:=hC22.f2
   have hC24:=hC23.f5
   have hC25:=hC24.f3
   have hC26:=hC25.f4
   have hC27:=hC26.f4
   have hC28:=hC27.h5
   exact Ak (l':=[(0,(ptr pb1 0)),(4,(ptr b1 0)),(5,(ptr b4 0))]) ⟨z,z,z,Ai⟩<|⟨v4,x6.1.1,v5,x6.1.2,x6.2.2.1,x6.2.2.2,z,z,hC28⟩
  replace hr2:=AD hr2 hc1
  refine AJ ?_
  obtain rfl:=Aa hr2
  have hC29:=hC17.triv (nil_val (α:=Int))
  exact Ak (l':=[(0,(ptr pb1 0)),(4,(ptr b1 0)),(5,(ptr b4 0))]) ⟨z,z,z,Ai⟩<|⟨(.slice none 0 0),[],(.slice (some ⟨b3,0,none⟩) 1 1),[(0,[10])],a1.2.1,a1.2.2,z,z,hC29⟩
 rintro l1 _ w7 hs1 ⟨v1,x2,v2,x3,x4,x5,rfl,rfl,hC18⟩
 try dsimp only at hF
 refine AL hs1 ?_
 clear hs1
 refine A6<|Ad<|Ag z z<|be hF fun x7 hr4 hF=>have hC30:=hC18.f4;?_
 obtain ⟨Fs2,hH2,hn2,hF2,hO2,hb2⟩:=AW (As:=[Ab v1 (x2:(List Int)),Af b4 [v1,v2],Ab v2 (x3:(List (Int × (List Int)))),Af b1 [(.slice none 0 0),(.slice none 0 0)]]) [Af pb1 [u1,(I x4),(I x5)]] hC30
 refine A7 B2 z z (c_S_l1Below pb1 (a1.1,x4,x5) u1 (Bf g1 hC30.keep hF2) 14 hH2 hn2 x7 hr4) ?_
 rintro _ w11 ⟨rfl,hq4⟩
 have hC31:Ctx Fs.flatten w0 w11 [Af pb1 [u1,(I x7.2.2.1),(I x7.2.2.2)],Ab v1 (x2:(List Int)),Af b4 [v1,v2],Ab v2 (x3:(List (Int × (List Int)))),Af b1 [(.slice none 0 0),(.slice none 0 0)]]:=hb2 _ _ hq4
 refine Ac<|AH<|Ad<|BT z z z<|Ae z z<|Ac<|be hF fun r2 hr5 hF=>Bd (fun l w=>∃x8:Int,∃x9:Int,∃v6:Value,∃x10:(List Int),∃v7:Value,∃x11:(List (Int × (List Int))),(x8,x9,x10,x11)=r2∧l=[(4,(ptr b1 0)),(5,(ptr b4 0))]∧Ctx Fs.flatten w0 w [Af pb1 [u1,(I x8),(I x9)],Ab v6 (x10:(List Int)),Af b4 [v6,v7],Ab v7 (x11:(List (Int × (List Int)))),Af b1 [(.slice none 0 0),(.slice none 0 0)]]) ?_ ?_
 ·refine AI z (fun hc2=>?_) (fun hc2=>?_)
  ·replace hr5:=AC hr5 hc2
   refine be hr5 fun r3 hr6 hr5=>Bd (fun l w=>∃x12:Int,∃x13:Int,∃v8:Value,∃x14:(List Int),∃v9:Value,∃x15:(List (Int × (List Int))),(x12,x13,x14,x15)=r3∧l=[(4,(ptr b1 0)),(5,(ptr b4 0))]∧Ctx Fs.flatten w0 w [Af pb1 [u1,(I x12),(I x13)],Ab v8 (x14:(List Int)),Af b4 [v8,v9],Ab v9 (x15:(List (Int × (List Int)))),Af b1 [(.slice none 0 0),(.slice none 0 0)]]) ?_ ?_
   ·refine B1 9 z hmix fun w14 hB9=>have hC34:=hC31.grow hB9;tf 0 A0 Aw z z z z z<|tm 2 z z z<|BM (i:=1) (j:=3) (by kernel_rfl) z z ?_ ?_
    ·refine Ao hC34 2 z z AQ z z<|Ac<|oe 3 z<|A2 (vs:=[(I 17),(I 18),(I 3),(I (-1))]) hC34 Ah ty3 z z z z (fac z<|fac z<|fac z<|fac z<|fa0) z z fun b5 w15 hC35 hB10=>?_
     have hC36:=hC35.row0 (α:=Int)
     have hC37:=hC36.triv (Bm ((-1)))
     have hC38:=hC37.row1
     have hC39:=hC38.triv (Bm (3))
     have hC40:=hC39.row1
     have hC41:=hC40.triv (Bm (18))
     have hC42:=hC41.row1
     have hC43:=hC42.triv (Bm (17))
     have hC44:=hC43.row1
     have hC45:=hC44.front 1 z
     dsimp only [List.eraseIdx,List.cons_append,List.nil_append,List.append_nil] at hC45
     have hC46:Ctx Fs.flatten w0 w15 (Ab (.slice (some ⟨b5,0,none⟩) 4 4) ([17,18,3,(-1)]:List Int)::[Af pb1 [u1,(I x7.2.2.1),(I x7.2.2.2)],Ab v1 (x2:(List Int)),Af b4 [v1,v2],Ab v2 (x3:(List (Int × (List Int)))),Af b1 [(.slice none 0 0),(.slice none 0 0)]]):=hC45.rowOwn (by simp [maxLen])
     refine Ac<|be hr6 fun x16 hr7 hr6=>oe 4 z<|have hC47:=hC46.f1;?_
     obtain ⟨Fs3,hH3,hn3,hF3,hO3,hb3⟩:=AW (As:=[Ab (.slice (some ⟨b5,0,none⟩) 4 4) ([17,18,3,(-1)]:(List Int)),Ab v1 (x2:(List Int)),Af b4 [v1,v2],Ab v2 (x3:(List (Int × (List Int)))),Af b1 [(.slice none 0 0),(.slice none 0 0)]]) [Af pb1 [u1,(I x7.2.2.1),(I x7.2.2.2)]] hC47
     refine A7 BG z z (c_S_l1PickInt pb1 (a1.1,x7.2.2.1,x7.2.2.2) u1 (Bf g1 hC47.keep hF3) ([17,18,3,(-1)]) (.slice (some ⟨b5,0,none⟩) 4 4) (hO3 0 _ _ _ z) hH3 hn3 x16 hr7) ?_
     rintro _ w16 ⟨rfl,hq5⟩
     have hC48:Ctx Fs.flatten w0 w16 [Af pb1 [u1,(I x16.2.2.1),(I x16.2.2.2)],Ab (.slice (some ⟨b5,0,none⟩) 4 4) ([17,18,3,(-1)]:(List Int)),Ab v1 (x2:(List Int)),Af b4 [v1,v2],Ab v2 (x3:(List (Int × (List Int)))),Af b1 [(.slice none 0 0),(.slice none 0 0)]]:=hb3 _ _ hq5
     refine Ac<|oe 5 z<|A2 (vs:=[(I x16.1)]) hC48 Ah ty3 z z z z (fac z<|fa0) z z fun b6 w17 hC49 hB11=>?_
     have hC50:=hC49.row0 (α:=Int)
     have hC51:=hC50.triv (Bm (x16.1))
     have hC52:=hC51.row1
     have hC53:=hC52.front 1 z
     dsimp only [List.eraseIdx,List.cons_append,List.nil_append,List.append_nil] at hC53
     have hC54:Ctx Fs.flatten w0 w17 (Ab (.slice (some ⟨b6,0,none⟩) 1 1) ([x16.1]:List Int)::[Af pb1 [u1,(I x16.2.2.1),(I x16.2.2.2)],Ab (.slice (some ⟨b5,0,none⟩) 4 4) ([17,18,3,(-1)]:(List Int)),Ab v1 (x2:(List Int)),Af b4 [v1,v2],Ab v2 (x3:(List (Int × (List Int)))),Af b1 [(.slice none 0 0),(.slice none 0 0)]]):=hC53.rowOwn (by simp [maxLen])
     refine Ac<|be hr6 fun x17 hx1 hr6=>oe 6 z<|Bi (α:=Int) hC54 3 z (hC54.ro 0 z) (Aq _ _) Ah ty3 z hx1 z z z fun v10 w18 hC55=>?_
     try dsimp only [List.set] at hC55
     refine Ac<|tf 7 A0 Aw z z z z z<|oe 8 z<|B3 (cs':=[v10,v2]) hC55 4 z z (Bz (hC55.ro 3 z)) z Aw z z fun w19 hC56 hKp3=>?_
     try dsimp only [List.set] at hC56
     refine Ac<|dn<|?_
     obtain rfl:=Aa hr6
     have hC57:=hC56.f6
     have hC58:=hC57.f6
     have hC59:=hC58.f6
     have hC60:=hC59.f6
     have hC61:=hC60.f5
     have hC62:=hC61.h5
     exact Ak (l':=[(4,(ptr b1 0)),(5,(ptr b4 0))]) ⟨z,z,Ai⟩<|⟨x16.2.2.1,x16.2.2.2,v10,x17,v2,x3,z,z,hC62⟩
    refine A2 (vs:=[(I 17),(I 18),(I 3),(I (-1))]) hC34 Ah ty3 z z z z (fac z<|fac z<|fac z<|fac z<|fa0) z z (fun b5 w15 hC35 hB10=>?_)
    have hC36:=hC35.row0 (α:=Int)
    have hC37:=hC36.triv (Bm ((-1)))
    have hC38:=hC37.row1
    have hC39:=hC38.triv (Bm (3))
    have hC40:=hC39.row1
    have hC41:=hC40.triv (Bm (18))
    have hC42:=hC41.row1
    have hC43:=hC42.triv (Bm (17))
    have hC44:=hC43.row1
    have hC45:=hC44.front 1 z
    dsimp only [List.eraseIdx,List.cons_append,List.nil_append,List.append_nil] at hC45
    have hC46:Ctx Fs.flatten w0 w15 (Ab (.slice (some ⟨b5,0,none⟩) 4 4) ([17,18,3,(-1)]:List Int)::[Af pb1 [u1,(I x7.2.2.1),(I x7.2.2.2)],Ab v1 (x2:(List Int)),Af b4 [v1,v2],Ab v2 (x3:(List (Int × (List Int)))),Af b1 [(.slice none 0 0),(.slice none 0 0)]]):=hC45.rowOwn (by simp [maxLen])
    refine Ac<|BM (i:=1) (j:=4) (by kernel_rfl) z z ?_ ?_
    ·refine Ao hC46 3 z z AQ z z<|Ac<|be hr6 fun x16 hr7 hr6=>oe 4 z<|have hC47:=hC46.f1;?_
     obtain ⟨Fs3,hH3,hn3,hF3,hO3,hb3⟩:=AW (As:=[Ab (.slice (some ⟨b5,0,none⟩) 4 4) ([17,18,3,(-1)]:(List Int)),Ab v1 (x2:(List Int)),Af b4 [v1,v2],Ab v2 (x3:(List (Int × (List Int)))),Af b1 [(.slice none 0 0),(.slice none 0 0)]]) [Af pb1 [u1,(I x7.2.2.1),(I x7.2.2.2)]] hC47
     refine A7 BG z z (c_S_l1PickInt pb1 (a1.1,x7.2.2.1,x7.2.2.2) u1 (Bf g1 hC47.keep hF3) ([17,18,3,(-1)]) (.slice (some ⟨b5,0,none⟩) 4 4) (hO3 0 _ _ _ z) hH3 hn3 x16 hr7) ?_
     rintro _ w16 ⟨rfl,hq5⟩
     have hC48:Ctx Fs.flatten w0 w16 [Af pb1 [u1,(I x16.2.2.1),(I x16.2.2.2)],Ab (.slice (some ⟨b5,0,none⟩) 4 4) ([17,18,3,(-1)]:(List Int)),Ab v1 (x2:(List Int)),Af b4 [v1,v2],Ab v2 (x3:(List (Int × (List Int)))),Af b1 [(.slice none 0 0),(.slice none 0 0)]]:=hb3 _ _ hq5
     refine Ac<|oe 5 z<|A2 (vs:=[(I x16.1)]) hC48 Ah ty3 z z z z (fac z<|fa0) z z fun b6 w17 hC49 hB11=>?_
     have hC50:=hC49.row0 (α:=Int)
     have hC51:=hC50.triv (Bm (x16.1))
     have hC52:=hC51.row1
     have hC53:=hC52.front 1 z
     dsimp only [List.eraseIdx,List.cons_append,List.nil_append,List.append_nil] at hC53
     have hC54:Ctx Fs.flatten w0 w17 (Ab (.slice (some ⟨b6,0,none⟩) 1 1) ([x16.1]:List Int)::[Af pb1 [u1,(I x16.2.2.1),(I x16.2.2.2)],Ab (.slice (some ⟨b5,0,none⟩) 4 4) ([17,18,3,(-1)]:(List Int)),Ab v1 (x2:(List Int)),Af b4 [v1,v2],Ab v2 (x3:(List (Int × (List Int)))),Af b1 [(.slice none 0 0),(.slice none 0 0)]]):=hC53.rowOwn (by simp [maxLen])
     refine Ac<|be hr6 fun x17 hx1 hr6=>oe 6 z<|Bi (α:=Int) hC54 3 z (hC54.ro 0 z) (Aq _ _) Ah ty3 z hx1 z z z fun v10 w18 hC55=>?_
     try dsimp only [List.set] at hC55
     refine Ac<|tf 7 A0 Aw z z z z z<|oe 8 z<|B3 (cs':=[v10,v2]) hC55 4 z z (Bz (hC55.ro 3 z)) z Aw z z fun w19 hC56 hKp3=>?_
     try dsimp only [List.set] at hC56
     refine Ac<|dn<|?_
     obtain rfl:=Aa hr6
     have hC57:=hC56.f6
     have hC58:=hC57.f6
     have hC59:=hC58.f6
     have hC60:=hC59.f6
     have hC61:=hC60.f5
     have hC62:=hC61.h5
     exact Ak (l':=[(4,(ptr b1 0)),(5,(ptr b4 0))]) ⟨z,z,Ai⟩<|⟨x16.2.2.1,x16.2.2.2,v10,x17,v2,x3,z,z,hC62⟩
    refine be hr6 fun x16 hr7 hr6=>have hC47:=hC46.f1;?_
    obtain ⟨Fs3,hH3,hn3,hF3,hO3,hb3⟩:=AW (As:=[Ab (.slice (some ⟨b5,0,none⟩) 4 4) ([17,18,3,(-1)]:(List Int)),Ab v1 (x2:(List Int)),Af b4 [v1,v2],Ab v2 (x3:(List (Int × (List Int)))),Af b1 [(.slice none 0 0),(.slice none 0 0)]]) [Af pb1 [u1,(I x7.2.2.1),(I x7.2.2.2)]] hC47
    refine A7 BG z z (c_S_l1PickInt pb1 (a1.1,x7.2.2.1,x7.2.2.2) u1 (Bf g1 hC47.keep hF3) ([17,18,3,(-1)]) (.slice (some ⟨b5,0,none⟩) 4 4) (hO3 0 _ _ _ z) hH3 hn3 x16 hr7) ?_
    rintro _ w16 ⟨rfl,hq5⟩
    have hC48:Ctx Fs.flatten w0 w16 [Af pb1 [u1,(I x16.2.2.1),(I x16.2.2.2)],Ab (.slice (some ⟨b5,0,none⟩) 4 4) ([17,18,3,(-1)]:(List Int)),Ab v1 (x2:(List Int)),Af b4 [v1,v2],Ab v2 (x3:(List (Int × (List Int)))),Af b1 [(.slice none 0 0),(.slice none 0 0)]]:=hb3 _ _ hq5
    refine Ac<|wAS (l':=[(0,(ptr pb1 0)),(4,(ptr b1 0)),(5,(ptr b4 0)),(15,(ptr pb1 0)),(16,(I x7.1)),(17,(.bool (decide (x7.1=0)))),(18,(.bool (decide (x7.1=0)))),(19,(ptr b4 0)),(21,(ptr pb1 0)),(22,(.slice (some ⟨b5,0,none⟩) 4 4)),(23,(I x16.1))]) ⟨z,z,z,z,z,z,z,z,z,z,z,Ai⟩<|Bw [⟨1,[],fun vs=>Bh v1,[]⟩,⟨5,[],fun vs=>PW.own ([x16.1]:(List Int)),[]⟩] [[],[]] 3 z (by kernel_rfl) (by kernel_rfl) z ?_ ?_
    ·refine An z ?_ ?_
     ·intro w18 hB12
      refine Ar<|⟨_,z,?_⟩
      exact Ao (hC48.grow hB12) 3 z z AQ z z<|Ac<|Ay (Al _ _) z z ⟨z,z⟩
     refine An z ?_ ?_
     ·intro w18 hB12
      refine Ar<|⟨_,z,?_⟩
      refine A2 (vs:=[(I x16.1)]) (AA w18) Ah ty3 z z z z (fac z<|fa0) z z (fun b6 w17 hC49 hB11=>?_)
      have hC50:=hC49.row0 (α:=Int)
      have hC51:=hC50.triv (Bm (x16.1))
      have hC52:=hC51.row1
      have hC53:=hC52.front 1 z
      dsimp only [List.eraseIdx,List.cons_append,List.nil_append,List.append_nil] at hC53
      have hC54:Ctx [] w18 w17 (Ab (.slice (some ⟨b6,0,none⟩) 1 1) ([x16.1]:List Int)::[]):=hC53.rowOwn (by simp [maxLen])
      exact Ac<|FinE_ctx hC54 z z (fun F h=>h)
     exact Bp
    intro w19 hB13
    refine At z z z ?_
    rintro _ _ ⟨rfl,rfl⟩
    refine At z z z fun v10 F1 hv2=>B0 fun hn4 hb4=>?_
    have hC55:=hC48.pushL hB13 (Bs:=[Ab v10 ([x16.1]:(List Int))]) (Fs:=[F1]) ⟨F1,_,z,hv2,z⟩ (by simpa using hn4) (fun b h=>(hb4 b (by simpa using h)).1)
    refine be hr6 fun x17 hx1 hr6=>oe 6 z<|Bi (α:=Int) hC55 3 z (hC55.ro 0 z) (Aq _ _) Ah ty3 z hx1 z z z fun v11 w20 hC56=>?_
    try dsimp only [List.set] at hC56
    refine Ac<|tf 7 A0 Aw z z z z z<|oe 8 z<|B3 (cs':=[v11,v2]) hC56 4 z z (Bz (hC56.ro 3 z)) z Aw z z fun w21 hC57 hKp3=>?_
    try dsimp only [List.set] at hC57
    refine Ac<|dn<|?_
    obtain rfl:=Aa hr6
    have hC58:=hC57.f6
    have hC59:=hC58.f6
    have hC60:=hC59.f6
    have hC61:=hC60.f6
    have hC62:=hC61.f5
    have hC63:=hC62.h5
    exact Ak (l':=[(4,(ptr b1 0)),(5,(ptr b4 0))]) ⟨z,z,Ai⟩<|⟨x16.2.2.1,x16.2.2.2,v11,x17,v2,x3,z,z,hC63⟩
   rintro l3 _ w13 hs3 ⟨x12,x13,v8,x14,v9,x15,rfl,rfl,hC33⟩
   try dsimp only at hr5
   obtain rfl:=Aa hr5
   exact Cn (l2:=[(4,(ptr b1 0)),(5,(ptr b4 0))]) hs3 ⟨z,z,Ai⟩<|⟨x12,x13,v8,x14,v9,x15,z,z,hC33⟩
  replace hr5:=AD hr5 hc2
  refine Ad<|BT z z z<|Ae z z<|Ac<|be hr5 fun r4 hr8 hr5=>Bd (fun l w=>∃x18:(List (Int × (List Int))),∃x19:Int,∃x20:Int,(x18,x19,x20)=r4∧l=[(4,(ptr b1 0)),(5,(ptr b4 0))]∧Ctx Fs.flatten w0 w [Af pb1 [u1,(I x19),(I x20)],Ab v1 (x2:(List Int)),Af b4 [v1,v2],Ab v2 (x18:(List (Int × (List Int)))),Af b1 [(.slice none 0 0),(.slice none 0 0)]]) ?_ ?_
  ·refine AI z (fun hc3=>?_) (fun hc3=>?_)
   ·replace hr8:=AC hr8 hc3
    refine be hr8 fun r5 hr9 hr8=>Bd (fun l w=>∃x21:(List (Int × (List Int))),∃x22:Int,∃x23:Int,(x21,x22,x23)=r5∧l=[(4,(ptr b1 0)),(5,(ptr b4 0))]∧Ctx Fs.flatten w0 w [Af pb1 [u1,(I x22),(I x23)],Ab v1 (x2:(List Int)),Af b4 [v1,v2],Ab v2 (x21:(List (Int × (List Int)))),Af b1 [(.slice none 0 0),(.slice none 0 0)]]) ?_ ?_
    ·refine be hr9 fun x24 hx2 hr9=>have hC66:=hC31.f3;?_
     obtain ⟨b7,hE1⟩:=hC66.eb hx2
     obtain ⟨cs1,hC67⟩:=hC66.openElem hx2
     obtain ⟨v12,he1,hC68⟩:=st84_own (hC67.cellsOwn z)
     obtain rfl:=cells_of_agg he1
     refine B1 10 z hmix fun w24 hB16=>have hC69:=hC68.grow hB16;tf 0 A0 AU z z z z z<|tm 5 z z z<|BM (i:=1) (j:=6) (by kernel_rfl) z z ?_ ?_
     ·refine Ao hC69 4 z z Ba z z<|Ac<|tk 2 z z (fl_index_hole hC69 1 z Ax ty84 hE1 hx2 z z)<|WL_index_hole hC69 1 z Ax ty84 hE1 hx2 z z z<|Ac<|tf 3 AB Aw z z z z z<|BM (i:=4) (j:=6) (by kernel_rfl) z z ?_ ?_
      ·refine Cw (fo:=1) hC69 1 z hE1 z z AQ z z<|Ac<|oe 6 z<|A2 (vs:=[(I (-1)),(I 9),(I 17),(I 18)]) hC69 Ah ty3 z z z z (fac z<|fac z<|fac z<|fac z<|fa0) z z fun b8 w25 hC70 hB17=>?_
       have hC71:=hC70.row0 (α:=Int)
       have hC72:=hC71.triv (Bm (18))
       have hC73:=hC72.row1
       have hC74:=hC73.triv (Bm (17))
       have hC75:=hC74.row1
       have hC76:=hC75.triv (Bm (9))
       have hC77:=hC76.row1
       have hC78:=hC77.triv (Bm ((-1)))
       have hC79:=hC78.row1
       have hC80:=hC79.front 1 z
       dsimp only [List.eraseIdx,List.cons_append,List.nil_append,List.append_nil] at hC80
       have hC81:Ctx Fs.flatten w0 w25 (Ab (.slice (some ⟨b8,0,none⟩) 4 4) ([(-1),9,17,18]:List Int)::[Ab v12 (x24.2:(List Int)),BS v2 (x3:(List (Int × (List Int)))) (Int.toNat 0) [(I x24.1),v12],Af pb1 [u1,(I x7.2.2.1),(I x7.2.2.2)],Ab v1 (x2:(List Int)),Af b4 [v1,v2],Af b1 [(.slice none 0 0),(.slice none 0 0)]]):=hC80.rowOwn (by simp [maxLen])
       refine Ac<|be hr9 fun x25 hr10 hr9=>oe 7 z<|have hC82:=hC81.f3;?_
       obtain ⟨Fs4,hH4,hn5,hF4,hO4,hb5⟩:=AW (As:=[Ab (.slice (some ⟨b8,0,none⟩) 4 4) ([(-1),9,17,18]:(List Int)),Ab v12 (x24.2:(List Int)),BS v2 (x3:(List (Int × (List Int)))) (Int.toNat 0) [(I x24.1),v12],Ab v1 (x2:(List Int)),Af b4 [v1,v2],Af b1 [(.slice none 0 0),(.slice none 0 0)]]) [Af pb1 [u1,(I x7.2.2.1),(I x7.2.2.2)]] hC82
       refine A7 BG z z (c_S_l1PickInt pb1 (a1.1,x7.2.2.1,x7.2.2.2) u1 (Bf g1 hC82.keep hF4) ([(-1),9,17,18]) (.slice (some ⟨b8,0,none⟩) 4 4) (hO4 0 _ _ _ z) hH4 hn5 x25 hr10) ?_
       rintro _ w26 ⟨rfl,hq8⟩
       have hC83:Ctx Fs.flatten w0 w26 [Af pb1 [u1,(I x25.2.2.1),(I x25.2.2.2)],Ab (.slice (some ⟨b8,0,none⟩) 4 4) ([(-1),9,17,18]:(List Int)),Ab v12 (x24.2:(List Int)),BS v2 (x3:(List (Int × (List Int)))) (Int.toNat 0) [(I x24.1),v12],Ab v1 (x2:(List Int)),Af b4 [v1,v2],Af b1 [(.slice none 0 0),(.slice none 0 0)]]:=hb5 _ _ hq8
       refine Ac<|be hr9 fun x26 hx3 hr9=>tk 8 z z (Ch hC83 2 z Ah ty3 hx3 z z)<|BV hC83 2 z Ah ty3 hx3 z z z fun b9 hE2=>Ac<|oe 9 z<|?_
       have hC85:=hC83.triv (Bm (x25.1))
       refine Cb hC85 2 z ty3 hE2 hx3 z z z (fun w27 hC84=>?_)
       try dsimp only [List.set] at hC84
       have hC86:=hC84.f3
       have hC88:=hC86.f3
       have hC87:=Cv x24.1 v12 (List.set x24.2 (Int.toNat 0) x25.1) hC88
       have hC89:=hC87.ownCells.closeElem
       refine Ac<|dn<|?_
       obtain rfl:=Aa hr9
       have hC90:=hC89.f5
       have hC91:=hC90.f1
       have hC92:=hC91.f5
       have hC93:=hC92.f5
       have hC94:=hC93.f4
       have hC95:=hC94.h5
       exact Ak (l':=[(4,(ptr b1 0)),(5,(ptr b4 0))]) ⟨z,z,Ai⟩<|⟨(List.set x3 (Int.toNat 0) (x24.1,(List.set x24.2 (Int.toNat 0) x25.1))),x25.2.2.1,x25.2.2.2,z,z,hC95⟩
      refine A2 (vs:=[(I (-1)),(I 9),(I 17),(I 18)]) hC69 Ah ty3 z z z z (fac z<|fac z<|fac z<|fac z<|fa0) z z (fun b8 w25 hC70 hB17=>?_)
      have hC71:=hC70.row0 (α:=Int)
      have hC72:=hC71.triv (Bm (18))
      have hC73:=hC72.row1
      have hC74:=hC73.triv (Bm (17))
      have hC75:=hC74.row1
      have hC76:=hC75.triv (Bm (9))
      have hC77:=hC76.row1
      have hC78:=hC77.triv (Bm ((-1)))
      have hC79:=hC78.row1
      have hC80:=hC79.front 1 z
      dsimp only [List.eraseIdx,List.cons_append,List.nil_append,List.append_nil] at hC80
      have hC81:Ctx Fs.flatten w0 w25 (Ab (.slice (some ⟨b8,0,none⟩) 4 4) ([(-1),9,17,18]:List Int)::[Ab v12 (x24.2:(List Int)),BS v2 (x3:(List (Int × (List Int)))) (Int.toNat 0) [(I x24.1),v12],Af pb1 [u1,(I x7.2.2.1),(I x7.2.2.2)],Ab v1 (x2:(List Int)),Af b4 [v1,v2],Af b1 [(.slice none 0 0),(.slice none 0 0)]]):=hC80.rowOwn (by simp [maxLen])
      refine Ac<|BM (i:=4) (j:=7) (by kernel_rfl) z z ?_ ?_
      ·refine Cw (fo:=1) hC81 2 z hE1 z z AQ z z<|Ac<|be hr9 fun x25 hr10 hr9=>oe 7 z<|have hC82:=hC81.f3;?_
       obtain ⟨Fs4,hH4,hn5,hF4,hO4,hb5⟩:=AW (As:=[Ab (.slice (some ⟨b8,0,none⟩) 4 4) ([(-1),9,17,18]:(List Int)),Ab v12 (x24.2:(List Int)),BS v2 (x3:(List (Int × (List Int)))) (Int.toNat 0) [(I x24.1),v12],Ab v1 (x2:(List Int)),Af b4 [v1,v2],Af b1 [(.slice none 0 0),(.slice none 0 0)]]) [Af pb1 [u1,(I x7.2.2.1),(I x7.2.2.2)]] hC82
       refine A7 BG z z (c_S_l1PickInt pb1 (a1.1,x7.2.2.1,x7.2.2.2) u1 (Bf g1 hC82.keep hF4) ([(-1),9,17,18]) (.slice (some ⟨b8,0,none⟩) 4 4) (hO4 0 _ _ _ z) hH4 hn5 x25 hr10) ?_
       rintro _ w26 ⟨rfl,hq8⟩
       have hC83:Ctx Fs.flatten w0 w26 [Af pb1 [u1,(I x25.2.2.1),(I x25.2.2.2)],Ab (.slice (some ⟨b8,0,none⟩) 4 4) ([(-1),9,17,18]:(List Int)),Ab v12 (x24.2:(List Int)),BS v2 (x3:(List (Int × (List Int)))) (Int.toNat 0) [(I x24.1),v12],Ab v1 (x2:(List Int)),Af b4 [v1,v2],Af b1 [(.slice none 0 0),(.slice none 0 0)]]:=hb5 _ _ hq8
       refine Ac<|be hr9 fun x26 hx3 hr9=>tk 8 z z (Ch hC83 2 z Ah ty3 hx3 z z)<|BV hC83 2 z Ah ty3 hx3 z z z fun b9 hE2=>Ac<|oe 9 z<|?_
       have hC85:=hC83.triv (Bm (x25.1))
       refine Cb hC85 2 z ty3 hE2 hx3 z z z (fun w27 hC84=>?_)
       try dsimp only [List.set] at hC84
       have hC86:=hC84.f3
       have hC88:=hC86.f3
       have hC87:=Cv x24.1 v12 (List.set x24.2 (Int.toNat 0) x25.1) hC88
       have hC89:=hC87.ownCells.closeElem
       refine Ac<|dn<|?_
       obtain rfl:=Aa hr9
       have hC90:=hC89.f5
       have hC91:=hC90.f1
       have hC92:=hC91.f5
       have hC93:=hC92.f5
       have hC94:=hC93.f4
       have hC95:=hC94.h5
       exact Ak (l':=[(4,(ptr b1 0)),(5,(ptr b4 0))]) ⟨z,z,Ai⟩<|⟨(List.set x3 (Int.toNat 0) (x24.1,(List.set x24.2 (Int.toNat 0) x25.1))),x25.2.2.1,x25.2.2.2,z,z,hC95⟩
      refine be hr9 fun x25 hr10 hr9=>have hC82:=hC81.f3;?_
      obtain ⟨Fs4,hH4,hn5,hF4,hO4,hb5⟩:=AW (As:=[Ab (.slice (some ⟨b8,0,none⟩) 4 4) ([(-1),9,17,18]:(List Int)),Ab v12 (x24.2:(List Int)),BS v2 (x3:(List (Int × (List Int)))) (Int.toNat 0) [(I x24.1),v12],Ab v1 (x2:(List Int)),Af b4 [v1,v2],Af b1 [(.slice none 0 0),(.slice none 0 0)]]) [Af pb1 [u1,(I x7.2.2.1),(I x7.2.2.2)]] hC82
      refine A7 BG z z (c_S_l1PickInt pb1 (a1.1,x7.2.2.1,x7.2.2.2) u1 (Bf g1 hC82.keep hF4) ([(-1),9,17,18]) (.slice (some ⟨b8,0,none⟩) 4 4) (hO4 0 _ _ _ z) hH4 hn5 x25 hr10) ?_
      rintro _ w26 ⟨rfl,hq8⟩
      have hC83:Ctx Fs.flatten w0 w26 [Af pb1 [u1,(I x25.2.2.1),(I x25.2.2.2)],Ab (.slice (some ⟨b8,0,none⟩) 4 4) ([(-1),9,17,18]:(List Int)),Ab v12 (x24.2:(List Int)),BS v2 (x3:(List (Int × (List Int)))) (Int.toNat 0) [(I x24.1),v12],Ab v1 (x2:(List Int)),Af b4 [v1,v2],Af b1 [(.slice none 0 0),(.slice none 0 0)]]:=hb5 _ _ hq8
      refine Ac<|oe 4 z<|Cw (fo:=1) hC83 3 z hE1 z z AQ z z<|Ac<|be hr9 fun x26 hx3 hr9=>tk 8 z z (Ch hC83 2 z Ah ty3 hx3 z z)<|BV hC83 2 z Ah ty3 hx3 z z z fun b9 hE2=>Ac<|oe 9 z<|?_
      have hC85:=hC83.triv (Bm (x25.1))
      refine Cb hC85 2 z ty3 hE2 hx3 z z z (fun w27 hC84=>?_)
      try dsimp only [List.set] at hC84
      have hC86:=hC84.f3
      have hC88:=hC86.f3
      have hC87:=Cv x24.1 v12 (List.set x24.2 (Int.toNat 0) x25.1) hC88
      have hC89:=hC87.ownCells.closeElem
      refine Ac<|dn<|?_
      obtain rfl:=Aa hr9
      have hC90:=hC89.f5
      have hC91:=hC90.f1
      have hC92:=hC91.f5
      have hC93:=hC92.f5
      have hC94:=hC93.f4
      have hC95:=hC94.h5
      exact Ak (l':=[(4,(ptr b1 0)),(5,(ptr b4 0))]) ⟨z,z,Ai⟩<|⟨(List.set x3 (Int.toNat 0) (x24.1,(List.set x24.2 (Int.toNat 0) x25.1))),x25.2.2.1,x25.2.2.2,z,z,hC95⟩
     refine A2 (vs:=[(I (-1)),(I 9),(I 17),(I 18)]) hC69 Ah ty3 z z z z (fac z<|fac z<|fac z<|fac z<|fa0) z z (fun b8 w25 hC70 hB17=>?_)
     have hC71:=hC70.row0 (α:=Int)
     have hC72:=hC71.triv (Bm (18))
     have hC73:=hC72.row1
     have hC74:=hC73.triv (Bm (17))
     have hC75:=hC74.row1
     have hC76:=hC75.triv (Bm (9))
     have hC77:=hC76.row1
     have hC78:=hC77.triv (Bm ((-1)))
     have hC79:=hC78.row1
     have hC80:=hC79.front 1 z
     dsimp only [List.eraseIdx,List.cons_append,List.nil_append,List.append_nil] at hC80
     have hC81:Ctx Fs.flatten w0 w25 (Ab (.slice (some ⟨b8,0,none⟩) 4 4) ([(-1),9,17,18]:List Int)::[Ab v12 (x24.2:(List Int)),BS v2 (x3:(List (Int × (List Int)))) (Int.toNat 0) [(I x24.1),v12],Af pb1 [u1,(I x7.2.2.1),(I x7.2.2.2)],Ab v1 (x2:(List Int)),Af b4 [v1,v2],Af b1 [(.slice none 0 0),(.slice none 0 0)]]):=hC80.rowOwn (by simp [maxLen])
     refine Ac<|BM (i:=1) (j:=7) (by kernel_rfl) z z ?_ ?_
     ·refine Ao hC81 5 z z Ba z z<|Ac<|tk 2 z z (fl_index_hole hC81 2 z Ax ty84 hE1 hx2 z z)<|WL_index_hole hC81 2 z Ax ty84 hE1 hx2 z z z<|Ac<|tf 3 AB Aw z z z z z<|BM (i:=4) (j:=7) (by kernel_rfl) z z ?_ ?_
      ·refine Cw (fo:=1) hC81 2 z hE1 z z AQ z z<|Ac<|be hr9 fun x25 hr10 hr9=>oe 7 z<|have hC82:=hC81.f3;?_
       obtain ⟨Fs4,hH4,hn5,hF4,hO4,hb5⟩:=AW (As:=[Ab (.slice (some ⟨b8,0,none⟩) 4 4) ([(-1),9,17,18]:(List Int)),Ab v12 (x24.2:(List Int)),BS v2 (x3:(List (Int × (List Int)))) (Int.toNat 0) [(I x24.1),v12],Ab v1 (x2:(List Int)),Af b4 [v1,v2],Af b1 [(.slice none 0 0),(.slice none 0 0)]]) [Af pb1 [u1,(I x7.2.2.1),(I x7.2.2.2)]] hC82
       refine A7 BG z z (c_S_l1PickInt pb1 (a1.1,x7.2.2.1,x7.2.2.2) u1 (Bf g1 hC82.keep hF4) ([(-1),9,17,18]) (.slice (some ⟨b8,0,none⟩) 4 4) (hO4 0 _ _ _ z) hH4 hn5 x25 hr10) ?_
       rintro _ w26 ⟨rfl,hq8⟩
       have hC83:Ctx Fs.flatten w0 w26 [Af pb1 [u1,(I x25.2.2.1),(I x25.2.2.2)],Ab (.slice (some ⟨b8,0,none⟩) 4 4) ([(-1),9,17,18]:(List Int)),Ab v12 (x24.2:(List Int)),BS v2 (x3:(List (Int × (List Int)))) (Int.toNat 0) [(I x24.1),v12],Ab v1 (x2:(List Int)),Af b4 [v1,v2],Af b1 [(.slice none 0 0),(.slice none 0 0)]]:=hb5 _ _ hq8
       refine Ac<|be hr9 fun x26 hx3 hr9=>tk 8 z z (Ch hC83 2 z Ah ty3 hx3 z z)<|BV hC83 2 z Ah ty3 hx3 z z z fun b9 hE2=>Ac<|oe 9 z<|?_
       have hC85:=hC83.triv (Bm (x25.1))
       refine Cb hC85 2 z ty3 hE2 hx3 z z z (fun w27 hC84=>?_)
       try dsimp only [List.set] at hC84
       have hC86:=hC84.f3
       have hC88:=hC86.f3
       have hC87:=Cv x24.1 v12 (List.set x24.2 (Int.toNat 0) x25.1) hC88
       have hC89:=hC87.ownCells.closeElem
       refine Ac<|dn<|?_
       obtain rfl:=Aa hr9
       have hC90:=hC89.f5
       have hC91:=hC90.f1
       have hC92:=hC91.f5
       have hC93:=hC92.f5
       have hC94:=hC93.f4
       have hC95:=hC94.h5
       exact Ak (l':=[(4,(ptr b1 0)),(5,(ptr b4 0))]) ⟨z,z,Ai⟩<|⟨(List.set x3 (Int.toNat 0) (x24.1,(List.set x24.2 (Int.toNat 0) x25.1))),x25.2.2.1,x25.2.2.2,z,z,hC95⟩
      refine be hr9 fun x25 hr10 hr9=>have hC82:=hC81.f3;?_
      obtain ⟨Fs4,hH4,hn5,hF4,hO4,hb5⟩:=AW (As:=[Ab (.slice (some ⟨b8,0,none⟩) 4 4) ([(-1),9,17,18]:(List Int)),Ab v12 (x24.2:(List Int)),BS v2 (x3:(List (Int × (List Int)))) (Int.toNat 0) [(I x24.1),v12],Ab v1 (x2:(List Int)),Af b4 [v1,v2],Af b1 [(.slice none 0 0),(.slice none 0 0)]]) [Af pb1 [u1,(I x7.2.2.1),(I x7.2.2.2)]] hC82
      refine A7 BG z z (c_S_l1PickInt pb1 (a1.1,x7.2.2.1,x7.2.2.2) u1 (Bf g1 hC82.keep hF4) ([(-1),9,17,18]) (.slice (some ⟨b8,0,none⟩) 4 4) (hO4 0 _ _ _ z) hH4 hn5 x25 hr10) ?_
      rintro _ w26 ⟨rfl,hq8⟩
      have hC83:Ctx Fs.flatten w0 w26 [Af pb1 [u1,(I x25.2.2.1),(I x25.2.2.2)],Ab (.slice (some ⟨b8,0,none⟩) 4 4) ([(-1),9,17,18]:(List Int)),Ab v12 (x24.2:(List Int)),BS v2 (x3:(List (Int × (List Int)))) (Int.toNat 0) [(I x24.1),v12],Ab v1 (x2:(List Int)),Af b4 [v1,v2],Af b1 [(.slice none 0 0),(.slice none 0 0)]]:=hb5 _ _ hq8
      refine Ac<|oe 4 z<|Cw (fo:=1) hC83 3 z hE1 z z AQ z z<|Ac<|be hr9 fun x26 hx3 hr9=>tk 8 z z (Ch hC83 2 z Ah ty3 hx3 z z)<|BV hC83 2 z Ah ty3 hx3 z z z fun b9 hE2=>Ac<|oe 9 z<|?_
      have hC85:=hC83.triv (Bm (x25.1))
      refine Cb hC85 2 z ty3 hE2 hx3 z z z (fun w27 hC84=>?_)
      try dsimp only [List.set] at hC84
      have hC86:=hC84.f3
      have hC88:=hC86.f3
      have hC87:=Cv x24.1 v12 (List.set x24.2 (Int.toNat 0) x25.1) hC88
      have hC89:=hC87.ownCells.closeElem
      refine Ac<|dn<|?_
      obtain rfl:=Aa hr9
      have hC90:=hC89.f5
      have hC91:=hC90.f1
      have hC92:=hC91.f5
      have hC93:=hC92.f5
      have hC94:=hC93.f4
      have hC95:=hC94.h5
      exact Ak (l':=[(4,(ptr b1 0)),(5,(ptr b4 0))]) ⟨z,z,Ai⟩<|⟨(List.set x3 (Int.toNat 0) (x24.1,(List.set x24.2 (Int.toNat 0) x25.1))),x25.2.2.1,x25.2.2.2,z,z,hC95⟩
     refine be hr9 fun x25 hr10 hr9=>have hC82:=hC81.f3;?_
     obtain ⟨Fs4,hH4,hn5,hF4,hO4,hb5⟩:=AW (As:=[Ab (.slice (some ⟨b8,0,none⟩) 4 4) ([(-1),9,17,18]:(List Int)),Ab v12 (x24.2:(List Int)),BS v2 (x3:(List (Int × (List Int)))) (Int.toNat 0) [(I x24.1),v12],Ab v1 (x2:(List Int)),Af b4 [v1,v2],Af b1 [(.slice none 0 0),(.slice none 0 0)]]) [Af pb1 [u1,(I x7.2.2.1),(I x7.2.2.2)]] hC82
     refine A7 BG z z (c_S_l1PickInt pb1 (a1.1,x7.2.2.1,x7.2.2.2) u1 (Bf g1 hC82.keep hF4) ([(-1),9,17,18]) (.slice (some ⟨b8,0,none⟩) 4 4) (hO4 0 _ _ _ z) hH4 hn5 x25 hr10) ?_
     rintro _ w26 ⟨rfl,hq8⟩
     have hC83:Ctx Fs.flatten w0 w26 [Af pb1 [u1,(I x25.2.2.1),(I x25.2.2.2)],Ab (.slice (some ⟨b8,0,none⟩) 4 4) ([(-1),9,17,18]:(List Int)),Ab v12 (x24.2:(List Int)),BS v2 (x3:(List (Int × (List Int)))) (Int.toNat 0) [(I x24.1),v12],Ab v1 (x2:(List Int)),Af b4 [v1,v2],Af b1 [(.slice none 0 0),(.slice none 0 0)]]:=hb5 _ _ hq8
     refine Ac<|oe 1 z<|Ao hC83 5 z z Ba z z<|Ac<|tk 2 z z (fl_index_hole hC83 3 z Ax ty84 hE1 hx2 z z)<|WL_index_hole hC83 3 z Ax ty84 hE1 hx2 z z z<|Ac<|tf 3 AB Aw z z z z z<|oe 4 z<|Cw (fo:=1) hC83 3 z hE1 z z AQ z z<|Ac<|be hr9 fun x26 hx3 hr9=>tk 8 z z (Ch hC83 2 z Ah ty3 hx3 z z)<|BV hC83 2 z Ah ty3 hx3 z z z fun b9 hE2=>Ac<|oe 9 z<|?_
     have hC85:=hC83.triv (Bm (x25.1))
     refine Cb hC85 2 z ty3 hE2 hx3 z z z (fun w27 hC84=>?_)
     try dsimp only [List.set] at hC84
     have hC86:=hC84.f3
     have hC88:=hC86.f3
     have hC87:=Cv x24.1 v12 (List.set x24.2 (Int.toNat 0) x25.1) hC88
     have hC89:=hC87.ownCells.closeElem
     refine Ac<|dn<|?_
     obtain rfl:=Aa hr9
     have hC90:=hC89.f5
     have hC91:=hC90.f1
     have hC92:=hC91.f5
     have hC93:=hC92.f5
     have hC94:=hC93.f4
     have hC95:=hC94.h5
     exact Ak (l':=[(4,(ptr b1 0)),(5,(ptr b4 0))]) ⟨z,z,Ai⟩<|⟨(List.set x3 (Int.toNat 0) (x24.1,(List.set x24.2 (Int.toNat 0) x25.1))),x25.2.2.1,x25.2.2.2,z,z,hC95⟩
    rintro l5 _ w23 hs5 ⟨x21,x22,x23,rfl,rfl,hC65⟩
    try dsimp only at hr8
    obtain rfl:=Aa hr8
    exact Cn (l2:=[(4,(ptr b1 0)),(5,(ptr b4 0))]) hs5 ⟨z,z,Ai⟩<|⟨x21,x22,x23,z,z,hC65⟩
   replace hr8:=AD hr8 hc3
   refine Ad<|BT z z z<|Ae z z<|Ac<|be hr8 fun r6 hr11 hr8=>Bd (fun l w=>∃x27:(List (Int × (List Int))),∃x28:Int,∃x29:Int,(x27,x28,x29)=r6∧l=[(4,(ptr b1 0)),(5,(ptr b4 0))]∧Ctx Fs.flatten w0 w [Af pb1 [u1,(I x28),(I x29)],Ab v1 (x2:(List Int)),Af b4 [v1,v2],Ab v2 (x27:(List (Int × (List Int)))),Af b1 [(.slice none 0 0),(.slice none 0 0)]]) ?_ ?_
   ·refine AI z (fun hc4=>?_) (fun hc4=>?_)
    ·replace hr11:=AC hr11 hc4
     refine be hr11 fun r7 hr12 hr11=>Bd (fun l w=>∃x30:(List (Int × (List Int))),∃x31:Int,∃x32:Int,(x30,x31,x32)=r7∧l=[(4,(ptr b1 0)),(5,(ptr b4 0))]∧Ctx Fs.flatten w0 w [Af pb1 [u1,(I x31),(I x32)],Ab v1 (x2:(List Int)),Af b4 [v1,v2],Ab v2 (x30:(List (Int × (List Int)))),Af b1 [(.slice none 0 0),(.slice none 0 0)]]) ?_ ?_
     ·refine B1 8 z hmix fun w30 hB20=>have hC98:=hC31.grow hB20;tf 0 A0 AU z z z z z<|tm 2 z z z<|BM (i:=1) (j:=3) (by kernel_rfl) z z ?_ ?_
      ·refine Ao hC98 2 z z Ba z z<|Ac<|be hr12 fun x33 hr13 hr12=>oe 3 z<|?_
       obtain ⟨Fs5,hH5,hn6,hF5,hO5,hb6⟩:=AW (As:=[Ab v1 (x2:(List Int)),Af b4 [v1,v2],Ab v2 (x3:(List (Int × (List Int)))),Af b1 [(.slice none 0 0),(.slice none 0 0)]]) [Af pb1 [u1,(I x7.2.2.1),(I x7.2.2.2)]] hC98
       refine A7 B2 z z (c_S_l1Below pb1 (a1.1,x7.2.2.1,x7.2.2.2) u1 (Bf g1 hC98.keep hF5) 5 hH5 hn6 x33 hr13) ?_
       rintro _ w31 ⟨rfl,hq11⟩
       have hC99:Ctx Fs.flatten w0 w31 [Af pb1 [u1,(I x33.2.2.1),(I x33.2.2.2)],Ab v1 (x2:(List Int)),Af b4 [v1,v2],Ab v2 (x3:(List (Int × (List Int)))),Af b1 [(.slice none 0 0),(.slice none 0 0)]]:=hb6 _ _ hq11
       refine Ac<|tk 4 z z (C3 z z)<|BN z z z<|Ac<|be hr12 fun x34 hx4 hr12=>tk 5 z z (Ch hC99 3 z Ax ty84 hx4 z z)<|BV hC99 3 z Ax ty84 hx4 z z z fun b10 hE3=>Ac<|tf 6 AB AE z z z z z<|oe 7 z<|have hC101:=hC99.f3;?_
       obtain ⟨cs2,hC102⟩:=hC101.openElem hx4
       obtain ⟨v13,he2,hC103⟩:=st84_own (hC102.cellsOwn z)
       obtain rfl:=cells_of_agg he2
       refine WL_store_hole (fo:=0) (cs':=[(I (w64 (x33.1 - 1))),v13]) hC103 1 z hE3 z z z z AE z z (fun w32 hC100=>?_)
       try dsimp only [List.set] at hC100
       have hC104:=hC100.f1
       have hC106:=hC104.f1
       have hC105:=Cv (w64 (x33.1 - 1)) v13 x34.2 hC106
       have hC107:=hC105.ownCells.closeElem
       refine Ac<|dn<|?_
       obtain rfl:=Aa hr12
       have hC108:=hC107.f4
       have hC109:=hC108.f1
       have hC110:=hC109.f4
       have hC111:=hC110.f4
       have hC112:=hC111.f4
       exact Ak (l':=[(4,(ptr b1 0)),(5,(ptr b4 0))]) ⟨z,z,Ai⟩<|⟨(List.set x3 (Int.toNat 0) (w64 (x33.1 - 1),x34.2)),x33.2.2.1,x33.2.2.2,z,z,hC112⟩
      obtain ⟨x33,hr13,hr12⟩:=BX hr12
      obtain ⟨Fs5,hH5,hn6,hF5,hO5,hb6⟩:=AW (As:=[Ab v1 (x2:(List Int)),Af b4 [v1,v2],Ab v2 (x3:(List (Int × (List Int)))),Af b1 [(.slice none 0 0),(.slice none 0 0)]]) [Af pb1 [u1,(I x7.2.2.1),(I x7.2.2.2)]] hC98
      refine A7 B2 z z (c_S_l1Below pb1 (a1.1,x7.2.2.1,x7.2.2.2) u1 (Bf g1 hC98.keep hF5) 5 hH5 hn6 x33 hr13) ?_
      rintro _ w31 ⟨rfl,hq11⟩
      have hC99:Ctx Fs.flatten w0 w31 [Af pb1 [u1,(I x33.2.2.1),(I x33.2.2.2)],Ab v1 (x2:(List Int)),Af b4 [v1,v2],Ab v2 (x3:(List (Int × (List Int)))),Af b1 [(.slice none 0 0),(.slice none 0 0)]]:=hb6 _ _ hq11
      refine Ac<|tk 4 z z (C3 z z)<|BN z z z<|Ac<|oe 1 z<|Ao hC99 2 z z Ba z z<|Ac<|be hr12 fun x34 hx4 hr12=>tk 5 z z (Ch hC99 3 z Ax ty84 hx4 z z)<|BV hC99 3 z Ax ty84 hx4 z z z fun b10 hE3=>Ac<|tf 6 AB AE z z z z z<|oe 7 z<|have hC101:=hC99.f3;?_
      obtain ⟨cs2,hC102⟩:=hC101.openElem hx4
      obtain ⟨v13,he2,hC103⟩:=st84_own (hC102.cellsOwn z)
      obtain rfl:=cells_of_agg he2
      refine WL_store_hole (fo:=0) (cs':=[(I (w64 (x33.1 - 1))),v13]) hC103 1 z hE3 z z z z AE z z (fun w32 hC100=>?_)
      try dsimp only [List.set] at hC100
      have hC104:=hC100.f1
      have hC106:=hC104.f1
      have hC105:=Cv (w64 (x33.1 - 1)) v13 x34.2 hC106
      have hC107:=hC105.ownCells.closeElem
      refine Ac<|dn<|?_
      obtain rfl:=Aa hr12
      have hC108:=hC107.f4
      have hC109:=hC108.f1
      have hC110:=hC109.f4
      have hC111:=hC110.f4
      have hC112:=hC111.f4
      exact Ak (l':=[(4,(ptr b1 0)),(5,(ptr b4 0))]) ⟨z,z,Ai⟩<|⟨(List.set x3 (Int.toNat 0) (w64 (x33.1 - 1),x34.2)),x33.2.2.1,x33.2.2.2,z,z,hC112⟩
     rintro l7 _ w29 hs7 ⟨x30,x31,x32,rfl,rfl,hC97⟩
     try dsimp only at hr11
     obtain rfl:=Aa hr11
     exact Cn (l2:=[(4,(ptr b1 0)),(5,(ptr b4 0))]) hs7 ⟨z,z,Ai⟩<|⟨x30,x31,x32,z,z,hC97⟩
    replace hr11:=AD hr11 hc4
    refine AJ ?_
    obtain rfl:=Aa hr11
    exact Ak (l':=[(4,(ptr b1 0)),(5,(ptr b4 0))]) ⟨z,z,Ai⟩<|⟨x3,x7.2.2.1,x7.2.2.2,z,z,hC31⟩
   rintro l6 _ w28 hs6 ⟨x27,x28,x29,rfl,rfl,hC96⟩
   try dsimp only at hr8
   obtain rfl:=Aa hr8
   exact Cn (l2:=[(4,(ptr b1 0)),(5,(ptr b4 0))]) hs6 ⟨z,z,Ai⟩<|⟨x27,x28,x29,z,z,hC96⟩
  rintro l4 _ w22 hs4 ⟨x18,x19,x20,rfl,rfl,hC64⟩
  try dsimp only at hr5
  obtain rfl:=Aa hr5
  exact Cn (l2:=[(4,(ptr b1 0)),(5,(ptr b4 0))]) hs4 ⟨z,z,Ai⟩<|⟨x19,x20,v1,x2,v2,x18,z,z,hC64⟩
 rintro l2 _ w12 hs2 ⟨x8,x9,v6,x10,v7,x11,rfl,rfl,hC32⟩
 try dsimp only at hF
 refine AM<|AL hs2<|?_
 clear hs2
 refine Ad<|A9 [v6,v7] hC32 2 z z z AT A4 z z<|AO (cs':=[v6,v7]) (new:=[v6,v7]) hC32 4 z z (fac (Bz (hC32.ro 1 z))<|fac (Bz (hC32.ro 3 z))<|fa0) z A4 z z fun w33 hC113 hKp6=>?_
 try dsimp only [List.set] at hC113
 refine Ac (AP ?_)
 obtain rfl:=Aa hF
 refine fn_retG1 z (rv_cell_agg (cs':=[v6,v7]) hC113 (i:=4) z z z AT A4 z)<|have hC115:=hC113.f3;have hC116:=hC115.f2;?_
 have hC114:=C1 v6 x10 v7 x11 hC116
 have hC117:=hC114.h2
 exact ⟨_,z,_,z,hC117⟩
theorem c_S_l2AnySchema {w0:World} {Fs:List (List Nat)} (pb1:Nat) (a1:((List UInt8) × Int × Int)) (u1:Value) (g1:RO Fs.flatten w0 u1 a1.1) (hH:Hold [Af pb1 [u1,(I a1.2.1),(I a1.2.2)]] w0 Fs) (hn:Fs.flatten.Nodup) (rr:((List Int) × ((List UInt8) × Int × Int))) (hF:S.l2AnySchema a1=some rr) :
 Calls Tryz.prog 131 [(ptr pb1 0)].toArray w0 fun e w'=>∃v,e=.returned v∧∃q0:Value,v=q0∧Ctx Fs.flatten w0 w' [Ab q0 (rr.1:(List Int)),Af pb1 [u1,(I rr.2.2.1),(I rr.2.2.2)]]:=by
 refine Au Tryz.func131 z z ?_
 have hC0:=BD hH hn
 unfold S.l2AnySchema at hF
 refine Ad<|Ae z z<|Ac<|Ad<|Ag z z<|be hF fun x1 hr1 hF=>?_
 obtain ⟨Fs1,hH1,hn1,hF1,hO1,hb1⟩:=AW (As:=[]) [Af pb1 [u1,(I a1.2.1),(I a1.2.2)]] hC0
 refine A7 Tryz.call126 z z (c_S_l2Schema pb1 (a1.1,a1.2.1,a1.2.2) u1 (Bf g1 hC0.keep hF1) hH1 hn1 x1 hr1) ?_
 rintro v1 w1 ⟨_,rfl,hq1⟩
 have hC1:Ctx Fs.flatten w0 w1 [Ab v1 (x1.1:(List Int)),Af pb1 [u1,(I x1.2.2.1),(I x1.2.2.2)]]:=hb1 _ _ hq1
 refine Ae z z<|Ac<|A6<|Ad<|Ag z z<|be hF fun x2 hr2 hF=>have hC2:=hC1.f1;?_
 obtain ⟨Fs2,hH2,hn2,hF2,hO2,hb2⟩:=AW (As:=[Ab v1 (x1.1:(List Int))]) [Af pb1 [u1,(I x1.2.2.1),(I x1.2.2.2)]] hC2
 refine A7 Cg z z (c_S_l1Once pb1 (a1.1,x1.2.2.1,x1.2.2.2) u1 (Bf g1 hC2.keep hF2) 14 hH2 hn2 x2 hr2) ?_
 rintro _ w2 ⟨rfl,hq2⟩
 have hC3:Ctx Fs.flatten w0 w2 [Af pb1 [u1,(I x2.2.2.1),(I x2.2.2.2)],Ab v1 (x1.1:(List Int))]:=hb2 _ _ hq2
 refine Ac<|be hF fun r1 hr3 hF=>Bd (fun l w=>∃x3:Int,∃x4:Int,∃v2:Value,∃x5:(List Int),(x3,x4,x5)=r1∧l=[(3,v2)]∧Ctx Fs.flatten w0 w [Af pb1 [u1,(I x3),(I x4)],Ab v2 (x5:(List Int))]) ?_ ?_
 ·refine AI z (fun hc1=>?_) (fun hc1=>?_)
  ·replace hr3:=AC hr3 hc1
   refine Bb<|Ag z z<|Ag z z<|A2 (vs:=[(I 0),(I 1),(I 4)]) hC3 Ah ty3 z z z z (fac z<|fac z<|fac z<|fa0) z z fun b1 w4 hC5 hB2=>?_
   have hC6:=hC5.row0 (α:=Int)
   have hC7:=hC6.triv (Bm (4))
   have hC8:=hC7.row1
   have hC9:=hC8.triv (Bm (1))
   have hC10:=hC9.row1
   have hC11:=hC10.triv (Bm (0))
   have hC12:=hC11.row1
   have hC13:=hC12.front 1 z
   dsimp only [List.eraseIdx,List.cons_append,List.nil_append,List.append_nil] at hC13
   have hC14:Ctx Fs.flatten w0 w4 (Ab (.slice (some ⟨b1,0,none⟩) 3 3) ([0,1,4]:List Int)::[Af pb1 [u1,(I x2.2.2.1),(I x2.2.2.2)],Ab v1 (x1.1:(List Int))]):=hC13.rowOwn (by simp [maxLen])
   refine be hr3 fun x6 hr4 hr3=>have hC15:=hC14.f1;?_
   obtain ⟨Fs3,hH3,hn3,hF3,hO3,hb3⟩:=AW (As:=[Ab (.slice (some ⟨b1,0,none⟩) 3 3) ([0,1,4]:(List Int)),Ab v1 (x1.1:(List Int))]) [Af pb1 [u1,(I x2.2.2.1),(I x2.2.2.2)]] hC15
   refine A7 BG z z (c_S_l1PickInt pb1 (a1.1,x2.2.2.1,x2.2.2.2) u1 (Bf g1 hC15.keep hF3) ([0,1,4]) (.slice (some ⟨b1,0,none⟩) 3 3) (hO3 0 _ _ _ z) hH3 hn3 x6 hr4) ?_
   rintro _ w5 ⟨rfl,hq3⟩
   have hC16:Ctx Fs.flatten w0 w5 [Af pb1 [u1,(I x6.2.2.1),(I x6.2.2.2)],Ab (.slice (some ⟨b1,0,none⟩) 3 3) ([0,1,4]:(List Int)),Ab v1 (x1.1:(List Int))]:=hb3 _ _ hq3
   refine A2 (vs:=[(I x6.1)]) hC16 Ah ty3 z z z z (fac z<|fa0) z z (fun b2 w6 hC17 hB3=>?_)
   have hC18:=hC17.row0 (α:=Int)
   have hC19:=hC18.triv (Bm (x6.1))
   have hC20:=hC19.row1
   have hC21:=hC20.front 1 z
   dsimp only [List.eraseIdx,List.cons_append,List.nil_append,List.append_nil] at hC21
   have hC22:Ctx Fs.flatten w0 w6 (Ab (.slice (some ⟨b2,0,none⟩) 1 1) ([x6.1]:List Int)::[Af pb1 [u1,(I x6.2.2.1),(I x6.2.2.2)],Ab (.slice (some ⟨b1,0,none⟩) 3 3) ([0,1,4]:(List Int)),Ab v1 (x1.1:(List Int))]):=hC21.rowOwn (by simp [maxLen])
   refine be hr3 fun x7 hx1 hr3=>Bi (α:=Int) hC22 3 z (hC22.ro 0 z) (Aq _ _) Ah ty3 z hx1 z z z fun v3 w7 hC23=>?_
   try dsimp only [List.set] at hC23
   refine Ae z z<|Ac<|?_
   obtain rfl:=Aa hr3
   have hC24:=hC23.f3
   have hC25:=hC24.f2
   have hC26:=hC25.h2
   exact Ak (l':=[(3,v3)]) ⟨z,Ai⟩<|⟨x6.2.2.1,x6.2.2.2,v3,x7,z,z,hC26⟩
  replace hr3:=AD hr3 hc1
  refine AJ ?_
  obtain rfl:=Aa hr3
  exact Ak (l':=[(3,v1)]) ⟨z,Ai⟩<|⟨x2.2.2.1,x2.2.2.2,v1,x1.1,z,z,hC3⟩
 rintro l1 _ w3 hs1 ⟨x3,x4,v2,x5,rfl,rfl,hC4⟩
 try dsimp only at hF
 refine AL hs1 ?_
 clear hs1
 refine Ad<|Ag z z<|Ae z z<|Ac<|AP<|?_
 obtain rfl:=Aa hF
 exact A8 z z<|have hC27:=hC4.f1;⟨_,z,_,z,hC27⟩
theorem c_S_l6Draw {w0:World} {Fs:List (List Nat)} (pb1:Nat) (a1:((List UInt8) × Int × Int)) (u1:Value) (g1:RO Fs.flatten w0 u1 a1.1) (hH:Hold [Af pb1 [u1,(I a1.2.1),(I a1.2.2)]] w0 Fs) (hn:Fs.flatten.Nodup) (rr:((List Int) × (List (Int × (List Int) × Int × Int × Int)) × ((List Int) × (List (Int × (List Int)))) × ((List UInt8) × Int × Int))) (hF:S.l6Draw a1=some rr) :
 Calls Tryz.prog 102 [(ptr pb1 0)].toArray w0 fun e w'=>∃v,e=.returned v∧∃q0:Value,∃q1:Value,∃q2:Value,v=(.tuple #[q0,q1,q2])∧Ctx Fs.flatten w0 w' [Ab q0 (rr.1:(List Int)),Ab q1 (rr.2.1:(List (Int × (List Int) × Int × Int × Int))),Ab q2 (rr.2.2.1:((List Int) × (List (Int × (List Int))))),Af pb1 [u1,(I rr.2.2.2.2.1),(I rr.2.2.2.2.2)]]:=by
 refine Au Tryz.func102 z z ?_
 have hC0:=BD hH hn
 unfold S.l6Draw at hF
 refine Ad<|Ae z z<|Ae z z<|By hC0 zero37 z z fun b1 w1 hC1 hB1 hN1=>Ac<|Ad<|Ag z z<|be hF fun x1 hr1 hF=>have hC2:=hC1.f1;?_
 obtain ⟨Fs1,hH1,hn1,hF1,hO1,hb1⟩:=AW (As:=[Af b1 [(.slice none 0 0),(.slice none 0 0)]]) [Af pb1 [u1,(I a1.2.1),(I a1.2.2)]] hC2
 refine A7 Tryz.call126 z z (c_S_l2Schema pb1 (a1.1,a1.2.1,a1.2.2) u1 (Bf g1 hC2.keep hF1) hH1 hn1 x1 hr1) ?_
 rintro v1 w2 ⟨_,rfl,hq1⟩
 have hC3:Ctx Fs.flatten w0 w2 [Ab v1 (x1.1:(List Int)),Af pb1 [u1,(I x1.2.2.1),(I x1.2.2.2)],Af b1 [(.slice none 0 0),(.slice none 0 0)]]:=hb1 _ _ hq1
 refine Ae z z<|Ac<|Ad<|Ag z z<|Ag z z<|be hF fun x2 hr2 hF=>have hC4:=hC3.f1;?_
 obtain ⟨Fs2,hH2,hn2,hF2,hO2,hb2⟩:=AW (As:=[Ab v1 (x1.1:(List Int)),Af b1 [(.slice none 0 0),(.slice none 0 0)]]) [Af pb1 [u1,(I x1.2.2.1),(I x1.2.2.2)]] hC4
 refine A7 Tryz.call127 z z (c_S_l5Methods pb1 (a1.1,x1.2.2.1,x1.2.2.2) u1 (Bf g1 hC4.keep hF2) x1.1 v1 (hO2 0 _ _ _ z) hH2 hn2 x2 hr2) ?_
 rintro v2 w3 ⟨_,rfl,hq2⟩
 have hC5:Ctx Fs.flatten w0 w3 [Ab v2 (x2.1:(List (Int × (List Int) × Int × Int × Int))),Af pb1 [u1,(I x2.2.2.1),(I x2.2.2.2)],Ab v1 (x1.1:(List Int)),Af b1 [(.slice none 0 0),(.slice none 0 0)]]:=hb2 _ _ hq2
 refine Ae z z<|Ac<|Ad<|Ag z z<|Ag z z<|be hF fun x3 hr3 hF=>have hC6:=hC5.f1;?_
 obtain ⟨Fs3,hH3,hn3,hF3,hO3,hb3⟩:=AW (As:=[Ab v2 (x2.1:(List (Int × (List Int) × Int × Int × Int))),Ab v1 (x1.1:(List Int)),Af b1 [(.slice none 0 0),(.slice none 0 0)]]) [Af pb1 [u1,(I x2.2.2.1),(I x2.2.2.2)]] hC6
 refine A7 Tryz.call128 z z (c_S_l3Query pb1 (a1.1,x2.2.2.1,x2.2.2.2) u1 (Bf g1 hC6.keep hF3) x1.1 v1 (hO3 1 _ _ _ z) hH3 hn3 x3 hr3) ?_
 rintro v3 w4 ⟨_,rfl,hq3⟩
 have hC7:Ctx Fs.flatten w0 w4 [Ab v3 (x3.1:((List Int) × (List (Int × (List Int))))),Af pb1 [u1,(I x3.2.2.1),(I x3.2.2.2)],Ab v2 (x2.1:(List (Int × (List Int) × Int × Int × Int))),Ab v1 (x1.1:(List Int)),Af b1 [(.slice none 0 0),(.slice none 0 0)]]:=hb3 _ _ hq3
 obtain ⟨v4,v5,rfl,hC8⟩:=st37_own hC7
 refine By hC8 zero37 z z fun b2 w5 hC9 hB2 hN2=>AO (cs':=[v4,v5]) (new:=[v4,v5]) hC9 0 z z (fac (Bz (hC9.ro 1 z))<|fac (Bz (hC9.ro 2 z))<|fa0) z A4 z z fun w6 hC10 hKp1=>?_
 try dsimp only [List.set] at hC10
 have hk1:=AY (Ap hB2) hN2 hKp1
 refine Ac<|A6<|Ad<|Ag z z<|be hF fun x4 hr4 hF=>have hC11:=hC10.f3;?_
 obtain ⟨Fs4,hH4,hn4,hF4,hO4,hb4⟩:=AW (As:=[Af b2 [v4,v5],Ab v4 (x3.1.1:(List Int)),Ab v5 (x3.1.2:(List (Int × (List Int)))),Ab v2 (x2.1:(List (Int × (List Int) × Int × Int × Int))),Ab v1 (x1.1:(List Int)),Af b1 [(.slice none 0 0),(.slice none 0 0)]]) [Af pb1 [u1,(I x3.2.2.1),(I x3.2.2.2)]] hC11
 refine A7 B2 z z (c_S_l1Below pb1 (a1.1,x3.2.2.1,x3.2.2.2) u1 (Bf g1 hC11.keep hF4) 20 hH4 hn4 x4 hr4) ?_
 rintro _ w7 ⟨rfl,hq4⟩
 have hC12:Ctx Fs.flatten w0 w7 [Af pb1 [u1,(I x4.2.2.1),(I x4.2.2.2)],Af b2 [v4,v5],Ab v4 (x3.1.1:(List Int)),Ab v5 (x3.1.2:(List (Int × (List Int)))),Ab v2 (x2.1:(List (Int × (List Int) × Int × Int × Int))),Ab v1 (x1.1:(List Int)),Af b1 [(.slice none 0 0),(.slice none 0 0)]]:=hb4 _ _ hq4
 refine Ac<|AH<|Ad<|BT z z z<|Ae z z<|Ac<|be hF fun r1 hr5 hF=>Bd (fun l w=>∃x5:Int,∃x6:Int,∃v6:Value,∃x7:(List Int),∃v7:Value,∃x8:(List (Int × (List Int))),∃v8:Value,∃x9:(List Int),∃v9:Value,∃x10:(List (Int × (List Int) × Int × Int × Int)),(x5,x6,x7,x8,x9,x10)=r1∧l=[(4,(ptr b1 0)),(5,v8),(6,v9),(7,(ptr b2 0))]∧Ctx Fs.flatten w0 w [Af pb1 [u1,(I x5),(I x6)],Af b2 [v6,v7],Ab v6 (x7:(List Int)),Ab v7 (x8:(List (Int × (List Int)))),Ab v9 (x10:(List (Int × (List Int) × Int × Int × Int))),Ab v8 (x9:(List Int)),Af b1 [(.slice none 0 0),(.slice none 0 0)]]) ?_ ?_
 ·refine AI z (fun hc1=>?_) (fun hc1=>?_)
  ·replace hr5:=AC hr5 hc1
   refine Bb<|Ag z z<|Ag z z<|Ag z z<|be hr5 fun x11 hr6 hr5=>?_
   obtain ⟨Fs5,hH5,hn5,hF5,hO5,hb5⟩:=AW (As:=[Af b2 [v4,v5],Ab v4 (x3.1.1:(List Int)),Ab v5 (x3.1.2:(List (Int × (List Int)))),Ab v2 (x2.1:(List (Int × (List Int) × Int × Int × Int))),Ab v1 (x1.1:(List Int)),Af b1 [(.slice none 0 0),(.slice none 0 0)]]) [Af pb1 [u1,(I x4.2.2.1),(I x4.2.2.2)]] hC12
   refine A7 Tryz.call129 z z (c_S_l5AnyMethod pb1 (a1.1,x4.2.2.1,x4.2.2.2) u1 (Bf g1 hC12.keep hF5) x1.1 v1 (hO5 4 _ _ _ z) hH5 hn5 x11 hr6) ?_
   rintro v10 w10 ⟨_,rfl,hq5⟩
   have hC14:Ctx Fs.flatten w0 w10 [Ab v10 (x11.1:(Int × (List Int) × Int × Int × Int)),Af pb1 [u1,(I x11.2.2.1),(I x11.2.2.2)],Af b2 [v4,v5],Ab v4 (x3.1.1:(List Int)),Ab v5 (x3.1.2:(List (Int × (List Int)))),Ab v2 (x2.1:(List (Int × (List Int) × Int × Int × Int))),Ab v1 (x1.1:(List Int)),Af b1 [(.slice none 0 0),(.slice none 0 0)]]:=hb5 _ _ hq5
   obtain ⟨v11,rfl,hC15⟩:=st71_own hC14
   refine A2 (vs:=[(.agg #[(I x11.1.1),v11,(I x11.1.2.2.1),(I x11.1.2.2.2.1),(I x11.1.2.2.2.2)])]) hC15 Bc ty71 z z z z (fac z<|fa0) z z (fun b3 w11 hC16 hB4=>?_)
   have hC17:=hC16.row0 (α:=(Int × (List Int) × Int × Int × Int))
   have hC19:=hC17.f2
   have hC18:=own_st71 x11.1.1 v11 x11.1.2.1 x11.1.2.2.1 x11.1.2.2.2.1 x11.1.2.2.2.2 hC19
   have hC20:=hC18.row1
   have hC21:=hC20.front 1 z
   dsimp only [List.eraseIdx,List.cons_append,List.nil_append,List.append_nil] at hC21
   have hC22:Ctx Fs.flatten w0 w11 (Ab (.slice (some ⟨b3,0,none⟩) 1 1) ([(x11.1.1,x11.1.2.1,x11.1.2.2.1,x11.1.2.2.2.1,x11.1.2.2.2.2)]:List (Int × (List Int) × Int × Int × Int))::[Af pb1 [u1,(I x11.2.2.1),(I x11.2.2.2)],Af b2 [v4,v5],Ab v4 (x3.1.1:(List Int)),Ab v5 (x3.1.2:(List (Int × (List Int)))),Ab v2 (x2.1:(List (Int × (List Int) × Int × Int × Int))),Ab v1 (x1.1:(List Int)),Af b1 [(.slice none 0 0),(.slice none 0 0)]]):=hC21.rowOwn (by simp [maxLen])
   refine be hr5 fun x12 hx1 hr5=>CF hC22 4 z Bc ty71 z hx1 z z z fun v12 w12 hC23=>?_
   try dsimp only [List.set] at hC23
   refine Ae z z<|Ac<|?_
   obtain rfl:=Aa hr5
   exact Ak (l':=[(4,(ptr b1 0)),(5,v1),(6,v12),(7,(ptr b2 0))]) ⟨z,z,z,z,Ai⟩<|⟨x11.2.2.1,x11.2.2.2,v4,x3.1.1,v5,x3.1.2,v1,x1.1,v12,x12,z,z,hC23⟩
  replace hr5:=AD hr5 hc1
  refine Ad<|BT z z z<|Ae z z<|Ac<|be hr5 fun r2 hr7 hr5=>Bd (fun l w=>∃x13:Int,∃x14:Int,∃v13:Value,∃x15:(List Int),∃v14:Value,∃x16:(List (Int × (List Int))),∃v15:Value,∃x17:(List Int),(x13,x14,x15,x16,x17)=r2∧l=[(4,(ptr b1 0)),(5,v15),(6,v2),(7,(ptr b2 0))]∧Ctx Fs.flatten w0 w [Af pb1 [u1,(I x13),(I x14)],Af b2 [v13,v14],Ab v13 (x15:(List Int)),Ab v14 (x16:(List (Int × (List Int)))),Ab v2 (x2.1:(List (Int × (List Int) × Int × Int × Int))),Ab v15 (x17:(List Int)),Af b1 [(.slice none 0 0),(.slice none 0 0)]]) ?_ ?_
  ·refine AI z (fun hc2=>?_) (fun hc2=>?_)
   ·replace hr7:=AC hr7 hc2
    refine Bb<|Ag z z<|Ag z z<|be hr7 fun x18 hr8 hr7=>?_
    obtain ⟨Fs6,hH6,hn6,hF6,hO6,hb6⟩:=AW (As:=[Af b2 [v4,v5],Ab v4 (x3.1.1:(List Int)),Ab v5 (x3.1.2:(List (Int × (List Int)))),Ab v2 (x2.1:(List (Int × (List Int) × Int × Int × Int))),Ab v1 (x1.1:(List Int)),Af b1 [(.slice none 0 0),(.slice none 0 0)]]) [Af pb1 [u1,(I x4.2.2.1),(I x4.2.2.2)]] hC12
    refine A7 Tryz.call130 z z (c_S_l3Any pb1 (a1.1,x4.2.2.1,x4.2.2.2) u1 (Bf g1 hC12.keep hF6) x1.1 v1 (hO6 4 _ _ _ z) hH6 hn6 x18 hr8) ?_
    rintro v16 w14 ⟨_,rfl,hq7⟩
    have hC26:Ctx Fs.flatten w0 w14 [Ab v16 (x18.1:((List Int) × (List (Int × (List Int))))),Af pb1 [u1,(I x18.2.2.1),(I x18.2.2.2)],Af b2 [v4,v5],Ab v4 (x3.1.1:(List Int)),Ab v5 (x3.1.2:(List (Int × (List Int)))),Ab v2 (x2.1:(List (Int × (List Int) × Int × Int × Int))),Ab v1 (x1.1:(List Int)),Af b1 [(.slice none 0 0),(.slice none 0 0)]]:=hb6 _ _ hq7
    obtain ⟨v17,v18,rfl,hC27⟩:=st37_own hC26
    refine AO (cs':=[v17,v18]) (new:=[v17,v18]) hC27 3 z z (fac (Bz (hC27.ro 0 z))<|fac (Bz (hC27.ro 1 z))<|fa0) z A4 z z (fun w15 hC28 hKp2=>?_)
    try dsimp only [List.set] at hC28
    refine Ac ?_
    obtain rfl:=Aa hr7
    have hC29:=hC28.f8
    have hC30:=hC29.f8
    have hC31:=hC30.f8
    have hC32:=hC31.f4
    have hC33:=hC32.f4
    have hC34:=hC33.f6
    have hC35:=hC34.f6
    have hC36:=hC35.h7
    exact Ak (l':=[(4,(ptr b1 0)),(5,v1),(6,v2),(7,(ptr b2 0))]) ⟨z,z,z,z,Ai⟩<|⟨x18.2.2.1,x18.2.2.2,v17,x18.1.1,v18,x18.1.2,v1,x1.1,z,z,hC36⟩
   replace hr7:=AD hr7 hc2
   refine Ad<|BT z z z<|Ae z z<|Ac<|be hr7 fun r3 hr9 hr7=>Bd (fun l w=>∃x19:Int,∃x20:Int,∃v19:Value,∃x21:(List Int),(x19,x20,x21)=r3∧l=[(4,(ptr b1 0)),(5,v19),(6,v2),(7,(ptr b2 0))]∧Ctx Fs.flatten w0 w [Af pb1 [u1,(I x19),(I x20)],Af b2 [v4,v5],Ab v4 (x3.1.1:(List Int)),Ab v5 (x3.1.2:(List (Int × (List Int)))),Ab v2 (x2.1:(List (Int × (List Int) × Int × Int × Int))),Ab v19 (x21:(List Int)),Af b1 [(.slice none 0 0),(.slice none 0 0)]]) ?_ ?_
   ·refine AI z (fun hc3=>?_) (fun hc3=>?_)
    ·replace hr9:=AC hr9 hc3
     refine Bb<|Ag z z<|be hr9 fun x22 hr10 hr9=>?_
     obtain ⟨Fs7,hH7,hn7,hF7,hO7,hb7⟩:=AW (As:=[Af b2 [v4,v5],Ab v4 (x3.1.1:(List Int)),Ab v5 (x3.1.2:(List (Int × (List Int)))),Ab v2 (x2.1:(List (Int × (List Int) × Int × Int × Int))),Ab v1 (x1.1:(List Int)),Af b1 [(.slice none 0 0),(.slice none 0 0)]]) [Af pb1 [u1,(I x4.2.2.1),(I x4.2.2.2)]] hC12
     refine A7 Tryz.call131 z z (c_S_l2AnySchema pb1 (a1.1,x4.2.2.1,x4.2.2.2) u1 (Bf g1 hC12.keep hF7) hH7 hn7 x22 hr10) ?_
     rintro v20 w17 ⟨_,rfl,hq9⟩
     have hC38:Ctx Fs.flatten w0 w17 [Ab v20 (x22.1:(List Int)),Af pb1 [u1,(I x22.2.2.1),(I x22.2.2.2)],Af b2 [v4,v5],Ab v4 (x3.1.1:(List Int)),Ab v5 (x3.1.2:(List (Int × (List Int)))),Ab v2 (x2.1:(List (Int × (List Int) × Int × Int × Int))),Ab v1 (x1.1:(List Int)),Af b1 [(.slice none 0 0),(.slice none 0 0)]]:=hb7 _ _ hq9
     refine Ae z z<|Ac<|?_
     obtain rfl:=Aa hr9
     have hC39:=hC38.f7
     have hC40:=hC39.f1
     have hC41:=hC40.f6
     have hC42:=hC41.f6
     have hC43:=hC42.f6
     have hC44:=hC43.f6
     have hC45:=hC44.f6
     have hC46:=hC45.h7
     exact Ak (l':=[(4,(ptr b1 0)),(5,v20),(6,v2),(7,(ptr b2 0))]) ⟨z,z,z,z,Ai⟩<|⟨x22.2.2.1,x22.2.2.2,v20,x22.1,z,z,hC46⟩
    replace hr9:=AD hr9 hc3
    refine AJ ?_
    obtain rfl:=Aa hr9
    exact Ak (l':=[(4,(ptr b1 0)),(5,v1),(6,v2),(7,(ptr b2 0))]) ⟨z,z,z,z,Ai⟩<|⟨x4.2.2.1,x4.2.2.2,v1,x1.1,z,z,hC12⟩
   rintro l3 _ w16 hs3 ⟨x19,x20,v19,x21,rfl,rfl,hC37⟩
   try dsimp only at hr7
   obtain rfl:=Aa hr7
   exact Cn (l2:=[(4,(ptr b1 0)),(5,v19),(6,v2),(7,(ptr b2 0))]) hs3 ⟨z,z,z,z,Ai⟩<|⟨x19,x20,v4,x3.1.1,v5,x3.1.2,v19,x21,z,z,hC37⟩
  rintro l2 _ w13 hs2 ⟨x13,x14,v13,x15,v14,x16,v15,x17,rfl,rfl,hC25⟩
  try dsimp only at hr5
  obtain rfl:=Aa hr5
  exact Cn (l2:=[(4,(ptr b1 0)),(5,v15),(6,v2),(7,(ptr b2 0))]) hs2 ⟨z,z,z,z,Ai⟩<|⟨x13,x14,v13,x15,v14,x16,v15,x17,v2,x2.1,z,z,hC25⟩
 rintro l1 _ w9 hs1 ⟨x5,x6,v6,x7,v7,x8,v8,x9,v9,x10,rfl,rfl,hC13⟩
 try dsimp only at hF
 refine AM<|AL hs1<|?_
 clear hs1
 refine A6<|B1 6 z hmix fun w18 hB7=>have hC47:=hC13.grow hB7;tm 0 z z z<|tm 1 z z z<|ta 3 z z z<|ta 4 z z z<|oe 2 z<|A9 [v6,v7] hC47 1 z z z AT A4 z z<|Ac<|oe 5 z<|AO (cs':=[v6,v7]) (new:=[v6,v7]) hC47 6 z z (fac (Bz (hC47.ro 2 z))<|fac (Bz (hC47.ro 3 z))<|fa0) z A4 z z fun w19 hC48 hKp3=>?_
 try dsimp only [List.set] at hC48
 refine Ac<|dn<|Am<|AP<|?_
 obtain rfl:=Aa hF
 refine fn_retG3 z (rv_tmp z) (rv_tmp z) (rv_cell_agg (cs':=[v6,v7]) hC48 (i:=6) z z z AT A4 z)<|have hC50:=hC48.f3;have hC51:=hC50.f3;?_
 have hC49:=C1 v6 x7 v7 x8 hC51
 have hC52:=hC49.f3
 have hC53:=hC52.f4
 have hC54:=hC53.h4
 exact ⟨_,z,_,_,_,z,hC54⟩
theorem c_S_l30Draw {w0:World} (a1:(List UInt8)) (u1:Value) (g1:RO [] w0 u1 a1) (rr:((List Int) × (List (Int × (List Int) × Int × Int × Int)) × ((List Int) × (List (Int × (List Int)))) × (List Int))) (hF:S.l30Draw a1=some rr) :
 Calls Tryz.prog 73 [u1].toArray w0 fun e w'=>∃v,e=.returned v∧∃q0:Value,∃q1:Value,∃q2:Value,∃q3:Value,v=(.tuple #[q0,q1,q2,q3])∧Ctx [] w0 w' [Ab q0 (rr.1:(List Int)),Ab q1 (rr.2.1:(List (Int × (List Int) × Int × Int × Int))),Ab q2 (rr.2.2.1:((List Int) × (List (Int × (List Int))))),Ab q3 (rr.2.2.2:(List Int))]:=by
 refine Au Tryz.func73 z z ?_
 have hC0:=AA w0
 unfold S.l30Draw at hF
 refine Ad<|Ae z z<|Ae z z<|By hC0 zero37 z z fun b1 w1 hC1 hB1 hN1=>Ae z z<|Ac<|Ad<|Ag z z<|be hF fun x1 hr1 hF=>A7 Tryz.call75 z z (c_S_l1New a1 u1 (g1.now hC1.keep) x1 hr1)<|?_
 rintro _ w2 ⟨b2,rfl,hq1⟩
 have hC2:Ctx [] w0 w2 [Af b2 [u1,(I x1.2.1),(I x1.2.2)],Af b1 [(.slice none 0 0),(.slice none 0 0)]]:=hC1.push2 hq1
 refine Ae z z<|Ac<|Ad<|Ag z z<|be hF fun x2 hr2 hF=>?_
 obtain ⟨Fs2,hH2,hn2,hF2,hO2,hb2⟩:=AW (As:=[Af b1 [(.slice none 0 0),(.slice none 0 0)]]) [Af b2 [u1,(I x1.2.1),(I x1.2.2)]] hC2
 refine A7 Tryz.call102 z z (c_S_l6Draw b2 (a1,x1.2.1,x1.2.2) u1 (Bf g1 hC2.keep hF2) hH2 hn2 x2 hr2) ?_
 rintro _ w3 ⟨v1,v2,v3,rfl,hq2⟩
 have hC3:Ctx [] w0 w3 [Ab v1 (x2.1:(List Int)),Ab v2 (x2.2.1:(List (Int × (List Int) × Int × Int × Int))),Ab v3 (x2.2.2.1:((List Int) × (List (Int × (List Int))))),Af b2 [u1,(I x2.2.2.2.2.1),(I x2.2.2.2.2.2)],Af b1 [(.slice none 0 0),(.slice none 0 0)]]:=hb2 _ _ hq2
 have hC4:=hC3.f2
 obtain ⟨v4,v5,rfl,hC5⟩:=st37_own hC4
 refine Ag z z<|AF z z z<|AF z z z<|AF z z z<|By hC5 zero37 z z fun b3 w4 hC6 hB2 hN2=>Ae z z<|Ae z z<|AO (cs':=[v4,v5]) (new:=[v4,v5]) hC6 0 z z (fac (Bz (hC6.ro 1 z))<|fac (Bz (hC6.ro 2 z))<|fa0) z A4 z z fun w5 hC7 hKp1=>?_
 try dsimp only [List.set] at hC7
 have hk1:=AY (Ap hB2) hN2 hKp1
 refine Ac<|be hF fun r1 hr3 hF=>BA (fun l w=>∃x3:Int,∃x4:Int,∃v6:Value,∃x5:(List Int),∃v7:Value,∃x6:(List (Int × (List Int))),∃v8:Value,∃x7:(List Int),∃v9:Value,∃x8:(List (Int × (List Int) × Int × Int × Int)),∃v10:Value,∃x9:(List Int),(x3,x4,x5,x6,x7,x8,x9)=r1∧l=[(2,v8),(3,v9),(4,(ptr b1 0)),(5,v10)]∧Ctx [] w0 w [Ab v10 (x9:(List Int)),Ab v9 (x8:(List (Int × (List Int) × Int × Int × Int))),Ab v8 (x7:(List Int)),Ab v7 (x6:(List (Int × (List Int)))),Ab v6 (x5:(List Int)),Af b1 [v6,v7]]) ?_ ?_
 ·refine B1 9 z hmix fun w7 hB4=>have hC9:=hC7.grow hB4;tm 0 z z z<|tm 1 z z z<|tm 3 z z z<|BM (i:=2) (j:=4) (by kernel_rfl) z z ?_ ?_
  ·refine A9 [v4,v5] hC9 0 z z z AT A4 z z<|Ac<|be hr3 fun x10 hr4 hr3=>oe 4 z<|have hC10:=hC9.f5;?_
   obtain ⟨Fs3,hH3,hn3,hF3,hO3,hb3⟩:=AW (As:=[Af b3 [v4,v5],Ab v4 (x2.2.2.1.1:(List Int)),Ab v5 (x2.2.2.1.2:(List (Int × (List Int)))),Ab v1 (x2.1:(List Int)),Ab v2 (x2.2.1:(List (Int × (List Int) × Int × Int × Int))),Af b1 [(.slice none 0 0),(.slice none 0 0)]]) [Af b2 [u1,(I x2.2.2.2.2.1),(I x2.2.2.2.2.2)]] hC10
   refine A7 CG z z (c_S_l30Private b2 (a1,x2.2.2.2.2.1,x2.2.2.2.2.2) u1 (Bf g1 hC10.keep hF3) hH3 hn3 x10 hr4) ?_
   rintro v11 w9 ⟨_,rfl,hq3⟩
   have hC11:Ctx [] w0 w9 [Ab v11 (x10.1:(List Int)),Af b2 [u1,(I x10.2.2.1),(I x10.2.2.2)],Af b3 [v4,v5],Ab v4 (x2.2.2.1.1:(List Int)),Ab v5 (x2.2.2.1.2:(List (Int × (List Int)))),Ab v1 (x2.1:(List Int)),Ab v2 (x2.2.1:(List (Int × (List Int) × Int × Int × Int))),Af b1 [(.slice none 0 0),(.slice none 0 0)]]:=hb3 _ _ hq3
   refine Ac<|ta 5 z z z<|ta 6 z z z<|oe 7 z<|AO (cs':=[v4,v5]) (new:=[v4,v5]) hC11 7 z z (fac (Bz (hC11.ro 3 z))<|fac (Bz (hC11.ro 4 z))<|fa0) z A4 z z fun w10 hC12 hKp2=>?_
   try dsimp only [List.set] at hC12
   refine Ac<|ta 8 z z z<|dn<|?_
   obtain rfl:=Aa hr3
   have hC13:=hC12.f7
   have hC14:=hC13.f4
   have hC15:=hC14.f5
   have hC16:=hC15.f6
   have hC17:=hC16.f7
   have hC18:=hC17.f5
   have hC19:=hC18.h6
   exact Ak (l':=[(2,v1),(3,v2),(4,(ptr b1 0)),(5,v11)]) ⟨z,z,z,z,Ai⟩<|⟨x10.2.2.1,x10.2.2.2,v4,x2.2.2.1.1,v5,x2.2.2.1.2,v1,x2.1,v2,x2.2.1,v11,x10.1,z,z,hC19⟩
  refine be hr3 fun x10 hr4 hr3=>have hC10:=hC9.f5;?_
  obtain ⟨Fs3,hH3,hn3,hF3,hO3,hb3⟩:=AW (As:=[Af b3 [v4,v5],Ab v4 (x2.2.2.1.1:(List Int)),Ab v5 (x2.2.2.1.2:(List (Int × (List Int)))),Ab v1 (x2.1:(List Int)),Ab v2 (x2.2.1:(List (Int × (List Int) × Int × Int × Int))),Af b1 [(.slice none 0 0),(.slice none 0 0)]]) [Af b2 [u1,(I x2.2.2.2.2.1),(I x2.2.2.2.2.2)]] hC10
  refine A7 CG z z (c_S_l30Private b2 (a1,x2.2.2.2.2.1,x2.2.2.2.2.2) u1 (Bf g1 hC10.keep hF3) hH3 hn3 x10 hr4) ?_
  rintro v11 w9 ⟨_,rfl,hq3⟩
  have hC11:Ctx [] w0 w9 [Ab v11 (x10.1:(List Int)),Af b2 [u1,(I x10.2.2.1),(I x10.2.2.2)],Af b3 [v4,v5],Ab v4 (x2.2.2.1.1:(List Int)),Ab v5 (x2.2.2.1.2:(List (Int × (List Int)))),Ab v1 (x2.1:(List Int)),Ab v2 (x2.2.1:(List (Int × (List Int) × Int × Int × Int))),Af b1 [(.slice none 0 0),(.slice none 0 0)]]:=hb3 _ _ hq3
  refine Ac<|ta 5 z z z<|ta 6 z z z<|oe 2 z<|A9 [v4,v5] hC11 2 z z z AT A4 z z<|Ac<|oe 7 z<|AO (cs':=[v4,v5]) (new:=[v4,v5]) hC11 7 z z (fac (Bz (hC11.ro 3 z))<|fac (Bz (hC11.ro 4 z))<|fa0) z A4 z z fun w10 hC12 hKp2=>?_
  try dsimp only [List.set] at hC12
  refine Ac<|ta 8 z z z<|dn<|?_
  obtain rfl:=Aa hr3
  have hC13:=hC12.f7
  have hC14:=hC13.f4
  have hC15:=hC14.f5
  have hC16:=hC15.f6
  have hC17:=hC16.f7
  have hC18:=hC17.f5
  have hC19:=hC18.h6
  exact Ak (l':=[(2,v1),(3,v2),(4,(ptr b1 0)),(5,v11)]) ⟨z,z,z,z,Ai⟩<|⟨x10.2.2.1,x10.2.2.2,v4,x2.2.2.1.1,v5,x2.2.2.1.2,v1,x2.1,v2,x2.2.1,v11,x10.1,z,z,hC19⟩
 rintro _ w6 ⟨x3,x4,v6,x5,v7,x6,v8,x7,v9,x8,v10,x9,rfl,rfl,hC8⟩
 try dsimp only at hF
 refine AP ?_
 obtain rfl:=Aa hF
 refine fn_retG4 z (rv_tmp z) (rv_tmp z) (rv_cell_agg (cs':=[v6,v7]) hC8 (i:=5) z z z AT A4 z) (rv_tmp z)<|have hC22:=hC8.f3;have hC23:=hC22.f4;?_
 have hC21:=C1 v6 x5 v7 x6 hC23
 have hC24:=hC21.f2
 have hC25:=hC24.f3
 have hC26:=hC25.h4
 exact ⟨_,z,_,_,_,_,z,hC26⟩
theorem c_S_DrawFindPrivateOrder {w0:World} (a1:(List UInt8)) (u1:Value) (g1:RO [] w0 u1 a1) (rr:((List Int) × (List (Int × (List Int) × Int × Int × Int)) × ((List Int) × (List (Int × (List Int)))) × (List Int))) (hF:S.DrawFindPrivateOrder a1=some rr) :
 Calls Tryz.prog 31 [u1].toArray w0 fun e w'=>∃v,e=.returned v∧∃q0:Value,∃q1:Value,∃q2:Value,∃q3:Value,v=(.tuple #[q0,q1,q2,q3])∧Ctx [] w0 w' [Ab q0 (rr.1:(List Int)),Ab q1 (rr.2.1:(List (Int × (List Int) × Int × Int × Int))),Ab q2 (rr.2.2.1:((List Int) × (List (Int × (List Int))))),Ab q3 (rr.2.2.2:(List Int))]:=by
 refine Au Tryz.func31 z z ?_
 have hC0:=AA w0
 unfold S.DrawFindPrivateOrder at hF
 refine Ad<|Ae z z<|Ae z z<|By hC0 zero37 z z fun b1 w1 hC1 hB1 hN1=>Ae z z<|Ac<|Ad<|Ag z z<|be hF fun x1 hr1 hF=>A7 Tryz.call73 z z (c_S_l30Draw a1 u1 (g1.now hC1.keep) x1 hr1)<|?_
 rintro _ w2 ⟨v1,v2,v3,v4,rfl,hq1⟩
 have hC2:Ctx [] w0 w2 [Ab v1 (x1.1:(List Int)),Ab v2 (x1.2.1:(List (Int × (List Int) × Int × Int × Int))),Ab v3 (x1.2.2.1:((List Int) × (List (Int × (List Int))))),Ab v4 (x1.2.2.2:(List Int)),Af b1 [(.slice none 0 0),(.slice none 0 0)]]:=hC1.push2 hq1
 have hC3:=hC2.f2
 obtain ⟨v5,v6,rfl,hC4⟩:=st37_own hC3
 refine Ag z z<|AF z z z<|AF z z z<|AF z z z<|AF z z z<|By hC4 zero37 z z fun b2 w3 hC5 hB2 hN2=>Ae z z<|Ae z z<|AO (cs':=[v5,v6]) (new:=[v5,v6]) hC5 0 z z (fac (Bz (hC5.ro 1 z))<|fac (Bz (hC5.ro 2 z))<|fa0) z A4 z z fun w4 hC6 hKp1=>?_
 try dsimp only [List.set] at hC6
 have hk1:=AY (((Ap hB1).then hq1.keep.below).then hB2) (Bg ((Ap hB1).then hq1.keep.below).size hN2) hKp1
 have hk2:=AY ((Ap hq1.keep.below).then hB2) (Bg (Ap hq1.keep.below).size hN2) hKp1
 have hk3:=AY (Ap hB2) hN2 hKp1
 refine Ae z z<|Ac<|A6<|B1 8 z hmix fun w5 hB3=>have hC7:=hC6.grow hB3;tm 0 z z z<|tm 1 z z z<|tm 3 z z z<|ta 4 z z z<|ta 5 z z z<|oe 2 z<|A9 [v5,v6] hC7 0 z z z AT A4 z z<|Ac<|oe 6 z<|AO (cs':=[v5,v6]) (new:=[v5,v6]) hC7 6 z z (fac (Bz (hC7.ro 1 z))<|fac (Bz (hC7.ro 2 z))<|fa0) z A4 z z fun w6 hC8 hKp2=>?_
 try dsimp only [List.set] at hC8
 have hk4:=AY (hk1.then hB3) hN1 hKp2
 refine Ac<|ta 7 z z z<|dn<|Am<|AP<|?_
 obtain rfl:=Aa hF
 refine fn_retG4 z (rv_tmp z) (rv_tmp z) (rv_cell_agg (cs':=[v5,v6]) hC8 (i:=6) z z z AT A4 z) (rv_tmp z)<|have hC9:=hC8.f5;have hC11:=hC9.f3;have hC12:=hC11.f3;?_
 have hC10:=C1 v5 x1.2.2.1.1 v6 x1.2.2.1.2 hC12
 have hC13:=hC10.f4
 have hC14:=hC13.f4
 have hC15:=hC14.h4
 exact ⟨_,z,_,_,_,_,z,hC15⟩
theorem c_S_SameSteps {w0:World} (a1:(List (Int × Int))) (u1:Value) (g1:RO [] w0 u1 a1) (a2:(List (Int × Int))) (u2:Value) (g2:RO [] w0 u2 a2) (rr:Bool) (hF:S.SameSteps a1 a2=some rr) :
 Calls Tryz.prog 32 [u1,u2].toArray w0 fun e w'=>∃v,e=.returned v∧Res w0 rr v w':=by
 refine Au Tryz.func32 z z ?_
 have hC0:=AA w0
 unfold S.SameSteps at hF
 refine Ad<|Ae z z<|Ac<|A6<|Ad<|Ag z z<|AZ A5 g1 z z<|Ag z z<|AZ A5 g2 z z<|C4 z z z<|Ac<|AI z (fun hc1=>?_) (fun hc1=>?_)
 ·replace hF:=AC hF hc1
  refine Ad<|Ae z z<|Ac<|AP<|Az<|?_
  obtain rfl:=Aa hF
  exact A8 z z<|⟨_,z,AR hC0 _⟩
 replace hF:=AD hF hc1
 refine AJ<|Am<|A6<|Ad<|Ae z z<|Ac<|be hF fun r1 hr1 hF=>Bd (fun l w=>.inl ()=r1∧l=[]∧Below w0.heap.size w0 w∧Ctx [] w0 w []) ?_ ?_
 ·refine AH<|wS (l':=[(0,u1),(1,u2),(5,(I 0))]) ⟨z,z,z,Ai⟩<|Bu (fun k l w=>∃x1:Int,l=[(0,u1),(1,u2),(5,(I x1))]∧Below w0.heap.size w0 w∧Ctx [] w0 w []∧S.SameSteps_l1 a1 a2 k x1=some r1) FUEL ⟨0,z,(Al _ _),hC0,hr1⟩<|?_
  clear hr1
  rintro k1 _ w1 ⟨x1,rfl,hB1,hC1,hL1⟩
  cases k1 with
  | zero=>rw [S.SameSteps_l1] at hL1; cases hL1
  | succ k1 =>
   rw [S.SameSteps_l1] at hL1
   refine A6<|Ad<|Ag z z<|Ag z z<|AZ A5 g1 z z<|Bo z z z<|Ac<|AI z (fun hc2=>?_) (fun hc2=>?_)
   ·replace hL1:=AC hL1 hc2
    refine AJ<|Am<|A6<|AH<|A6<|B1 9 z hmix fun w2 hB2=>have hC2:=hC1.grow hB2;tm 0 z z z<|tm 1 z z z<|be hL1 fun x2 hx1 hL1=>tk 2 z z (B4 A5 ty75 g1 hx1 z z)<|AG A5 ty75 g1 hx1 z z z fun b1 o1 h1=>Ac<|tm 4 z z z<|tm 5 z z z<|be hL1 fun x3 hx2 hL1=>tk 6 z z (B4 A5 ty75 g2 hx2 z z)<|AG A5 ty75 g2 hx2 z z z fun b2 o2 h2=>Ac<|wAS (l':=[(0,u1),(1,u2),(5,(I x1)),(11,(I x1)),(12,u1),(13,(I (List.length a1:Int))),(14,(.bool (decide (x1 < (List.length a1:Int))))),(17,u1),(18,(I x1)),(19,(ptr b1 o1)),(21,u2),(22,(I x1)),(23,(ptr b2 o2))]) ⟨z,z,z,z,z,z,z,z,z,z,z,z,z,Ai⟩<|Bw [⟨3,[],fun vs=>Bh (.agg #[(I x2.1),(I x2.2)]),[]⟩,⟨7,[],fun vs=>Bh (.agg #[(I x3.1),(I x3.2)]),[]⟩] [[],[]] 1 z (by kernel_rfl) (by kernel_rfl) z ?_ ?_
    ·refine An z ?_ ?_
     ·intro w3 hB3
      refine Ar<|⟨_,z,?_⟩
      refine A3 ty75 h1 (hC2.keep.then hB3) z z (fun v1 h3=>?_)
      obtain rfl:=ro_st75 h3
      exact Ac<|Ay (Al _ _) z z ⟨z,z⟩
     refine An z ?_ ?_
     ·intro w3 hB3
      refine Ar<|⟨_,z,?_⟩
      refine A3 ty75 h2 (hC2.keep.then hB3) z z (fun v2 h4=>?_)
      obtain rfl:=ro_st75 h4
      exact Ac<|Ay (Al _ _) z z ⟨z,z⟩
     exact Bp
    intro w4 hB4
    refine At z z z ?_
    rintro _ _ ⟨rfl,rfl⟩
    refine At z z z ?_
    rintro _ _ ⟨rfl,rfl⟩
    refine B0 fun hn1 hb1=>have hC3:=hC2.grow hB4;tk 8 z z (fl_agg_neq AX Tryz.stoodInHeld75 Tryz.eqGuardType75 (fun w=>(eqF_int (by decide) BY z z (eqF_int (by decide) BY z z eqF_nil))) z z)<|WL_agg_neq AX Tryz.stoodInHeld75 Tryz.eqGuardType75 (fun w=>(eqF_int (by decide) BY z z (eqF_int (by decide) BY z z eqF_nil))) z z z<|Ac<|dn<|Am<|AI z (fun hc3=>?_) (fun hc3=>?_)
    ·replace hL1:=AC hL1 hc3
     refine Ad<|Ae z z<|Ac<|AP<|Bk<|Az<|Az<|Bk<|Az<|Az<|?_
     obtain rfl:=Aa hL1
     dsimp only at hF
     obtain rfl:=Aa hF
     exact A8 z z<|⟨_,z,AR hC3 _⟩
    replace hL1:=AD hL1 hc3
    exact AJ<|AM<|Am<|Bb<|Ag z z<|Bj z z z<|Ae z z<|Ac<|Ak (l':=[(0,u1),(1,u2),(5,(I (w64 (x1+1))))]) ⟨z,z,z,Ai⟩<|⟨k1,Av _,w64 (x1+1),z,(((Ap hB1).then hB2).then hB4).below,hC3,hL1⟩
   replace hL1:=AD hL1 hc2
   refine Bt (A1 (A1 (Be ?_)))
   obtain rfl:=Aa hL1
   exact Ak (l':=[]) Ai<|⟨z,z,(Ap hB1).below,hC1⟩
 rintro l2 _ w5 hs2 ⟨rfl,rfl,hB5,hC4⟩
 try dsimp only at hF
 refine AL hs2 ?_
 clear hs2
 refine Ad<|Ae z z<|Ac<|AP<|?_
 obtain rfl:=Aa hF
 exact A8 z z<|⟨_,z,AR hC4 _⟩
theorem c_S_l6First {w0:World} (a1:(List (Int × (List Int) × Int × Int × Int))) (u1:Value) (g1:RO [] w0 u1 a1) (a2:(Int × (List Int))) (u2:Value) (g2:RO [] w0 u2 a2.2) (a3:(List Int)) (u3:Value) (g3:RO [] w0 u3 a3) (rr:Int) (hF:S.l6First a1 a2 a3=some rr) :
 Calls Tryz.prog 103 [u1,(.agg #[(I a2.1),u2]),u3].toArray w0 fun e w'=>∃v,e=.returned v∧Res w0 rr v w':=by
 refine Au Tryz.func103 z z ?_
 have hC0:=AA w0
 unfold S.l6First at hF
 refine Ad<|Bv (cs:=[(I a2.1),u2]) hC0 z z z fun b1 w1 hC1 hB1 hN1=>Ae z z<|Ac<|A6<|Ad<|Ae z z<|Ac<|be hF fun r1 hr1 hF=>Bd (fun l w=>.inl ()=r1∧l=[]∧Below w1.heap.size w1 w∧Ctx [] w0 w []) ?_ ?_
 ·refine AH<|wS (l':=[(0,u1),(2,u3),(4,(ptr b1 0)),(7,(I 0))]) ⟨z,z,z,z,Ai⟩<|Bu (fun k l w=>∃x1:Int,l=[(0,u1),(2,u3),(4,(ptr b1 0)),(7,(I x1))]∧Below w1.heap.size w1 w∧Ctx [] w0 w [Af b1 [(I a2.1),u2]]∧S.l6First_l1 a1 a2 a3 k x1=some r1) FUEL ⟨0,z,(Al _ _),hC1,hr1⟩<|?_
  clear hr1
  rintro k1 _ w2 ⟨x1,rfl,hB2,hC2,hL1⟩
  cases k1 with
  | zero=>rw [S.l6First_l1] at hL1; cases hL1
  | succ k1 =>
   rw [S.l6First_l1] at hL1
   refine A6<|Ad<|Ag z z<|Ag z z<|AZ Bc g1 z z<|Bo z z z<|Ac<|AI z (fun hc1=>?_) (fun hc1=>?_)
   ·replace hL1:=AC hL1 hc1
    refine AJ<|Am<|A6<|AH<|A6<|B1 7 z hmix fun w3 hB3=>have hC3:=hC2.grow hB3;tm 0 z z z<|tm 1 z z z<|be hL1 fun x2 hx1 hL1=>tk 2 z z (B4 Bc ty71 g1 hx1 z z)<|AG Bc ty71 g1 hx1 z z z fun b2 o1 h1=>Ac<|tm 5 z z z<|wAS (l':=[(0,u1),(2,u3),(4,(ptr b1 0)),(7,(I x1)),(8,(I x1)),(9,u1),(10,(I (List.length a1:Int))),(11,(.bool (decide (x1 < (List.length a1:Int))))),(14,u1),(15,(I x1)),(16,(ptr b2 o1)),(19,u3)]) ⟨z,z,z,z,z,z,z,z,z,z,z,z,Ai⟩<|Bw [⟨3,[],fun vs=>Ct [] w0 x2,[]⟩,⟨4,[],fun vs=>Bh (.agg #[(I a2.1),u2]),[]⟩] [[],[]] 1 z (by kernel_rfl) (by kernel_rfl) z ?_ ?_
    ·refine An z ?_ ?_
     ·intro w4 hB4
      refine Ar<|⟨_,z,?_⟩
      exact A3 ty71 h1 (hC3.keep.then hB4) z z fun v3 h4=>Ac<|Ay (Al _ _) z z ⟨z,h4⟩
     refine An z ?_ ?_
     ·intro w4 hB4
      refine Ar<|⟨_,z,?_⟩
      exact A9 [(I a2.1),u2] (hC3.grow hB4) 0 z z z C9 Ca z z<|Ac<|Ay (Al _ _) z z ⟨z,z⟩
     exact Bp
    intro w5 hB5
    refine At z z z ?_
    rintro v3 _ ⟨rfl,h4⟩
    obtain ⟨v2,rfl,h3⟩:=Cz h4
    refine At z z z ?_
    rintro _ _ ⟨rfl,rfl⟩
    refine B0 fun hn1 hb1=>have hC4:=hC3.grow hB5;be hL1 fun x3 hr2 hL1=>oe 6 z<|cb Tryz.call55 z z (c_S_CanCall x2 v2 (h3.now hC4.keep) (a2.1,a2.2) u2 (g2.now hC4.keep) a3 u3 (g3.now hC4.keep) x3 hr2) fun w6 hB6=>have hC5:=hC4.grow hB6;Ac<|dn<|Am<|AI z (fun hc2=>?_) (fun hc2=>?_)
    ·replace hL1:=AC hL1 hc2
     refine Ad<|Ag z z<|Ae z z<|Ac<|AP<|Bk<|Az<|Az<|Bk<|Az<|Az<|?_
     obtain rfl:=Aa hL1
     dsimp only at hF
     obtain rfl:=Aa hF
     exact A8 z z<|⟨_,z,B5 hC5 _⟩
    replace hL1:=AD hL1 hc2
    exact AJ<|AM<|Am<|Bb<|Ag z z<|Bj z z z<|Ae z z<|Ac<|Ak (l':=[(0,u1),(2,u3),(4,(ptr b1 0)),(7,(I (w64 (x1+1))))]) ⟨z,z,z,z,Ai⟩<|⟨k1,Av _,w64 (x1+1),z,((((Ap hB2).then hB3).then hB5).then hB6).below,hC5,hL1⟩
   replace hL1:=AD hL1 hc1
   refine Bt (A1 (A1 (Be ?_)))
   obtain rfl:=Aa hL1
   have hC6:=hC2.h0
   exact Ak (l':=[]) Ai<|⟨z,z,(Ap hB2).below,hC6⟩
 rintro l2 _ w7 hs2 ⟨rfl,rfl,hB7,hC7⟩
 try dsimp only at hF
 refine AL hs2 ?_
 clear hs2
 refine Ad<|Ae z z<|Ac<|AP<|?_
 obtain rfl:=Aa hF
 exact A8 z z<|⟨_,z,B5 hC7 _⟩
theorem c_S_l6Greedy {w0:World} (a1:(List (Int × (List Int) × Int × Int × Int))) (u1:Value) (g1:RO [] w0 u1 a1) (a2:((List Int) × (List (Int × (List Int))))) (u2:Value) (g2:RO [] w0 u2 a2.1) (u3:Value) (g3:RO [] w0 u3 a2.2) (rr:(List (Int × Int))) (hF:S.l6Greedy a1 a2=some rr) :
 Calls Tryz.prog 74 [u1,(.agg #[u2,u3])].toArray w0 fun e w'=>∃v,e=.returned v∧Res w0 rr v w':=by
 refine Au Tryz.func74 z z ?_
 have hC0:=AA w0
 unfold S.l6Greedy at hF
 refine Ad<|Bv (cs:=[u2,u3]) hC0 z z z fun b1 w1 hC1 hB1 hN1=>Ae z z<|Ac<|Ad<|A2 (vs:=[]) hC1 A5 ty75 z z z z (by simp) z z fun b2 w2 hC2 hB2=>?_
 have hC3:=hC2.row0 (α:=(Int × Int))
 have hC4:=hC3.front 1 z
 dsimp only [List.eraseIdx,List.cons_append,List.nil_append,List.append_nil] at hC4
 have hC5:Ctx [] w0 w2 (Ab (.slice (some ⟨b2,0,none⟩) 0 0) (([]:List (Int × Int)):List (Int × Int))::[Af b1 [u2,u3]]):=hC4.rowOwn (by simp [maxLen])
 refine Ae z z<|Ac<|Ad<|A2 (vs:=[]) hC5 Ah ty3 z z z z (by simp) z z fun b3 w3 hC6 hB3=>?_
 have hC7:=hC6.row0 (α:=Int)
 have hC8:=hC7.front 1 z
 dsimp only [List.eraseIdx,List.cons_append,List.nil_append,List.append_nil] at hC8
 have hC9:Ctx [] w0 w3 (Ab (.slice (some ⟨b3,0,none⟩) 0 0) (([]:List Int):List Int)::[Ab (.slice (some ⟨b2,0,none⟩) 0 0) (([]:List (Int × Int)):(List (Int × Int))),Af b1 [u2,u3]]):=hC8.rowOwn (by simp [maxLen])
 refine Ae z z<|Ac<|Ad<|A2 (vs:=[]) hC9 Ah ty3 z z z z (by simp) z z fun b4 w4 hC10 hB4=>?_
 have hC11:=hC10.row0 (α:=Int)
 have hC12:=hC11.front 1 z
 dsimp only [List.eraseIdx,List.cons_append,List.nil_append,List.append_nil] at hC12
 have hC13:Ctx [] w0 w4 (Ab (.slice (some ⟨b4,0,none⟩) 0 0) (([]:List Int):List Int)::[Ab (.slice (some ⟨b3,0,none⟩) 0 0) (([]:List Int):(List Int)),Ab (.slice (some ⟨b2,0,none⟩) 0 0) (([]:List (Int × Int)):(List (Int × Int))),Af b1 [u2,u3]]):=hC12.rowOwn (by simp [maxLen])
 refine Ae z z<|Ac<|A6<|Ad<|Ae z z<|Ac<|be hF fun r1 hr1 hF=>Bd (fun l w=>∃v4:Value,∃x5:(List (Int × Int)),x5=r1∧l=[(5,v4)]∧Ctx [] w0 w [Ab v4 (x5:(List (Int × Int)))]) ?_ ?_
 ·refine AH<|wS (l':=[(0,u1),(3,(ptr b1 0)),(5,(.slice (some ⟨b2,0,none⟩) 0 0)),(6,(.slice (some ⟨b3,0,none⟩) 0 0)),(7,(.slice (some ⟨b4,0,none⟩) 0 0)),(8,(I 0))]) ⟨z,z,z,z,z,z,Ai⟩<|Bu (fun k l w=>∃v1:Value,∃x1:(List (Int × Int)),∃v2:Value,∃x2:(List Int),∃v3:Value,∃x3:(List Int),∃x4:Int,l=[(0,u1),(3,(ptr b1 0)),(5,v1),(6,v2),(7,v3),(8,(I x4))]∧Ctx [] w0 w [Ab v3 (x3:(List Int)),Ab v2 (x2:(List Int)),Ab v1 (x1:(List (Int × Int))),Af b1 [u2,u3]]∧S.l6Greedy_l1 a2 a1 k x1 x2 x3 x4=some r1) FUEL ⟨(.slice (some ⟨b2,0,none⟩) 0 0),([]:List (Int × Int)),(.slice (some ⟨b3,0,none⟩) 0 0),([]:List Int),(.slice (some ⟨b4,0,none⟩) 0 0),([]:List Int),0,z,hC13,hr1⟩<|?_
  clear hr1
  rintro k1 _ w5 ⟨v1,x1,v2,x2,v3,x3,x4,rfl,hC14,hL1⟩
  cases k1 with
  | zero=>rw [S.l6Greedy_l1] at hL1; cases hL1
  | succ k1 =>
   rw [S.l6Greedy_l1] at hL1
   refine A6<|Ad<|Ag z z<|fd A0 AU z z z z<|Ao hC14 3 z z Ba z z<|AZ Ax g3 z z<|Bo z z z<|Ac<|AI z (fun hc1=>?_) (fun hc1=>?_)
   ·replace hL1:=AC hL1 hc1
    refine AJ<|Am<|A6<|AH<|Ad<|Ae z z<|Ac<|be hL1 fun r2 hr2 hL1=>Bd (fun l w=>∃v8:Value,∃x10:(List (Int × Int)),∃v9:Value,∃x11:(List Int),∃v10:Value,∃x12:(List Int),(x10,x11,x12)=r2∧l=[(0,u1),(3,(ptr b1 0)),(5,v8),(6,v9),(7,v10),(8,(I x4))]∧Ctx [] w0 w [Ab v10 (x12:(List Int)),Ab v9 (x11:(List Int)),Ab v8 (x10:(List (Int × Int))),Af b1 [u2,u3]]) ?_ ?_
    ·refine AH<|wS (l':=[(0,u1),(3,(ptr b1 0)),(5,v1),(6,v2),(7,v3),(8,(I x4)),(9,(I 0))]) ⟨z,z,z,z,z,z,z,Ai⟩<|Bu (fun k l w=>∃v5:Value,∃x6:(List (Int × Int)),∃v6:Value,∃x7:(List Int),∃v7:Value,∃x8:(List Int),∃x9:Int,l=[(0,u1),(3,(ptr b1 0)),(5,v5),(6,v6),(7,v7),(8,(I x4)),(9,(I x9))]∧Ctx [] w0 w [Ab v7 (x8:(List Int)),Ab v6 (x7:(List Int)),Ab v5 (x6:(List (Int × Int))),Af b1 [u2,u3]]∧S.l6Greedy_l2 a2 a1 k x6 x7 x8 x9=some r2) FUEL ⟨v1,x1,v2,x2,v3,x3,0,z,hC14,hr2⟩<|?_
     clear hr2
     rintro k2 _ w6 ⟨v5,x6,v6,x7,v7,x8,x9,rfl,hC15,hL2⟩
     cases k2 with
     | zero=>rw [S.l6Greedy_l2] at hL2; cases hL2
     | succ k2 =>
      rw [S.l6Greedy_l2] at hL2
      refine A6<|Ad<|Ag z z<|fd A0 AU z z z z<|Ao hC15 3 z z Ba z z<|AZ Ax g3 z z<|Bo z z z<|Ac<|AI z (fun hc2=>?_) (fun hc2=>?_)
      ·replace hL2:=AC hL2 hc2
       refine AJ<|Am<|A6<|AH<|Ad<|Ag z z<|fd A0 AU z z z z<|Ao hC15 3 z z Ba z z<|Ag z z<|be hL2 fun x13 hx1 hL2=>AG Ax ty84 g3 hx1 z z z fun b5 o1 h1=>A3 ty84 h1 hC15.keep z z fun v11 h2=>?_
       obtain ⟨v12,rfl,h3⟩:=Cc h2
       refine Ag z z<|be hL2 fun x14 hr3 hL2=>ci Tryz.call103 z z (c_S_l6First a1 u1 (g1.now hC15.keep) x13 v12 (h3.now hC15.keep) x7 v6 ((hC15.ro 1 z).now (Aq _ _)) x14 hr3) fun w7 hB7=>have hC16:=hC15.grow hB7;Ae z z<|Ac<|be hL2 fun r3 hr4 hL2=>BA (fun l w=>∃x15:Bool,x15=r3∧l=[(0,u1),(3,(ptr b1 0)),(5,v5),(6,v6),(7,v7),(8,(I x4)),(9,(I x9)),(10,(I x14)),(43,(.bool x15))]∧Below w7.heap.size w7 w∧Ctx [] w0 w [Ab v7 (x8:(List Int)),Ab v6 (x7:(List Int)),Ab v5 (x6:(List (Int × Int))),Af b1 [u2,u3]]) ?_ ?_
       ·refine Bb<|Ag z z<|Cq z z z<|Ag z z<|Br (fun hc3=>?_) (fun hc3=>?_)
        ·replace hr4:=AC hr4 hc3
         refine Aj z z<|Ag z z<|Aj z z<|Ag z z<|be hr4 fun x16 hr5 hr4=>Aj z z<|cb Cl z z (c_S_l2Has x8 v7 ((hC16.ro 0 z).now (Aq _ _)) x9 x16 hr5) fun w10 hB9=>have hC18:=hC16.grow hB9;Aj z z<|Bx z z<|AV z z z<|Ac<|?_
         obtain rfl:=Aa hr4
         exact Ak (l':=[(0,u1),(3,(ptr b1 0)),(5,v5),(6,v6),(7,v7),(8,(I x4)),(9,(I x9)),(10,(I x14)),(43,(.bool (!x16)))]) ⟨z,z,z,z,z,z,z,z,z,Ai⟩<|⟨(!x16),z,z,(Ap hB9).below,hC18⟩
        replace hr4:=AD hr4 hc3
        refine gs z z z z<|gs z z z z<|gs z z z z<|gs z z z z<|AS z z z<|Ac<|?_
        obtain rfl:=Aa hr4
        exact Ak (l':=[(0,u1),(3,(ptr b1 0)),(5,v5),(6,v6),(7,v7),(8,(I x4)),(9,(I x9)),(10,(I x14)),(43,(.bool false))]) ⟨z,z,z,z,z,z,z,z,z,Ai⟩<|⟨false,z,z,(Al _ _),hC16⟩
       rintro _ w9 ⟨x15,rfl,rfl,hB8,hC17⟩
       try dsimp only at hL2
       refine AI z (fun hc4=>?_) (fun hc4=>?_)
       ·replace hL2:=AC hL2 hc4
        refine Ad<|Ag z z<|Ag z z<|Ag z z<|Ck (vs:=[(0,(I x9)),(1,(I x14))]) z z z (built75_0_1 z z)<|A2 (vs:=[(.agg #[(I x9),(I x14)])]) hC17 A5 ty75 z z z z (fac z<|fa0) z z fun b6 w11 hC19 hB10=>?_
        have hC20:=hC19.row0 (α:=(Int × Int))
        have hC21:=C5 x9 x14 hC20
        have hC22:=hC21.row1
        have hC23:=hC22.front 1 z
        dsimp only [List.eraseIdx,List.cons_append,List.nil_append,List.append_nil] at hC23
        have hC24:Ctx [] w0 w11 (Ab (.slice (some ⟨b6,0,none⟩) 1 1) ([(x9,x14)]:List (Int × Int))::[Ab v7 (x8:(List Int)),Ab v6 (x7:(List Int)),Ab v5 (x6:(List (Int × Int))),Af b1 [u2,u3]]):=hC23.rowOwn (by simp [maxLen])
        refine be hL2 fun x17 hx2 hL2=>Bi (α:=(Int × Int)) hC24 3 z (hC24.ro 0 z) (Aq _ _) A5 ty75 z hx2 z z z fun v13 w12 hC25=>?_
        try dsimp only [List.set] at hC25
        refine Ae z z<|Ac<|Ad<|Ag z z<|Ag z z<|A2 (vs:=[(I x9)]) hC25 Ah ty3 z z z z (fac z<|fa0) z z fun b7 w13 hC26 hB11=>?_
        have hC27:=hC26.row0 (α:=Int)
        have hC28:=hC27.triv (Bm (x9))
        have hC29:=hC28.row1
        have hC30:=hC29.front 1 z
        dsimp only [List.eraseIdx,List.cons_append,List.nil_append,List.append_nil] at hC30
        have hC31:Ctx [] w0 w13 (Ab (.slice (some ⟨b7,0,none⟩) 1 1) ([x9]:List Int)::[Ab (.slice (some ⟨b6,0,none⟩) 1 1) ([(x9,x14)]:(List (Int × Int))),Ab v7 (x8:(List Int)),Ab v6 (x7:(List Int)),Ab v13 (x17:(List (Int × Int))),Af b1 [u2,u3]]):=hC30.rowOwn (by simp [maxLen])
        refine be hL2 fun x18 hx3 hL2=>Bi (α:=Int) hC31 2 z (hC31.ro 0 z) (Aq _ _) Ah ty3 z hx3 z z z fun v14 w14 hC32=>?_
        try dsimp only [List.set] at hC32
        refine Ae z z<|Ac<|Ad<|Ag z z<|fd A0 AU z z z z<|Ao hC32 5 z z Ba z z<|Ag z z<|be hL2 fun x19 hx4 hL2=>AG Ax ty84 g3 hx4 z z z fun b8 o2 h4=>A3 ty84 h4 hC32.keep z z fun v15 h5=>?_
        obtain ⟨v16,rfl,h6⟩:=Cc h5
        refine be hL2 fun x20 hr6 hL2=>A7 Tryz.call57 z z (c_S_l6Bind x7 v6 ((hC32.ro 3 z).now (Aq _ _)) x19 v16 (h6.now hC32.keep) x20 hr6)<|?_
        rintro v17 w15 ⟨hB12,F1,hv3,hn1,hb1⟩
        have hC33:=hC32.push hB12 (A:=Ab v17 x20) hv3 hn1 hb1
        refine Ae z z<|Ac<|Bt<|blk_exit_other z<|A1<|A1<|Be<|?_
        obtain rfl:=Aa hL2
        have hC34:=hC33.f6
        have hC35:=hC34.f6
        have hC36:=hC35.f2
        have hC37:=hC36.f5
        have hC38:=hC37.h4
        exact Ak (l':=[(0,u1),(3,(ptr b1 0)),(5,v13),(6,v17),(7,v14),(8,(I x4))]) ⟨z,z,z,z,z,z,Ai⟩<|⟨v13,x17,v17,x20,v14,x18,z,z,hC38⟩
       replace hL2:=AD hL2 hc4
       exact AJ<|AM<|Am<|Bb<|Ag z z<|Bj z z z<|Ae z z<|Ac<|Ak (l':=[(0,u1),(3,(ptr b1 0)),(5,v5),(6,v6),(7,v7),(8,(I x4)),(9,(I (w64 (x9+1))))]) ⟨z,z,z,z,z,z,z,Ai⟩<|⟨k2,Av _,v5,x6,v6,x7,v7,x8,w64 (x9+1),z,hC17,hL2⟩
      replace hL2:=AD hL2 hc2
      refine Bt (A1 (A1 (Be ?_)))
      obtain rfl:=Aa hL2
      exact Ak (l':=[(0,u1),(3,(ptr b1 0)),(5,v5),(6,v6),(7,v7),(8,(I x4))]) ⟨z,z,z,z,z,z,Ai⟩<|⟨v5,x6,v6,x7,v7,x8,z,z,hC15⟩
    rintro l4 _ w16 hs4 ⟨v8,x10,v9,x11,v10,x12,rfl,rfl,hC39⟩
    try dsimp only at hL1
    refine AM<|AL hs4<|?_
    clear hs4
    exact Bb<|Ag z z<|Bj z z z<|Ae z z<|Ac<|Ak (l':=[(0,u1),(3,(ptr b1 0)),(5,v8),(6,v9),(7,v10),(8,(I (w64 (x4+1))))]) ⟨z,z,z,z,z,z,Ai⟩<|⟨k1,Av _,v8,x10,v9,x11,v10,x12,w64 (x4+1),z,hC39,hL1⟩
   replace hL1:=AD hL1 hc1
   refine Bt (A1 (A1 (Be ?_)))
   obtain rfl:=Aa hL1
   have hC40:=hC14.f2
   have hC41:=hC40.h1
   exact Ak (l':=[(5,v1)]) ⟨z,Ai⟩<|⟨v1,x1,z,z,hC41⟩
 rintro l5 _ w17 hs5 ⟨v4,x5,rfl,rfl,hC42⟩
 try dsimp only at hF
 refine AL hs5 ?_
 clear hs5
 refine Ad<|Ag z z<|Ae z z<|Ac<|AP<|?_
 obtain rfl:=Aa hF
 exact A8 z z<|⟨_,z,Co hC42 0 z⟩
theorem c_S_FindOrder {w0:World} (a1:(List Int)) (u1:Value) (g1:RO [] w0 u1 a1) (a2:(List (Int × (List Int) × Int × Int × Int))) (u2:Value) (g2:RO [] w0 u2 a2) (a3:((List Int) × (List (Int × (List Int))))) (u3:Value) (g3:RO [] w0 u3 a3.1) (u4:Value) (g4:RO [] w0 u4 a3.2) (rr:((List (Int × Int)) × Bool)) (hF:S.FindOrder a1 a2 a3=some rr) :
 Calls Tryz.prog 33 [u1,u2,(.agg #[u3,u4])].toArray w0 fun e w'=>∃v,e=.returned v∧Res2 w0 rr.1 rr.2 v w':=by
 refine Au Tryz.func33 z z ?_
 have hC0:=AA w0
 unfold S.FindOrder at hF
 refine Ad<|Bv (cs:=[u3,u4]) hC0 z z z fun b1 w1 hC1 hB1 hN1=>Ae z z<|Ae z z<|Ac<|A6<|Ad<|Ag z z<|Ag z z<|A9 [u3,u4] hC1 0 z z z AT A4 z z<|be hF fun x1 hr1 hF=>cb CD z z (c_S_l6Fine a1 u1 (g1.now hC1.keep) a2 u2 (g2.now hC1.keep) (a3.1,a3.2) u3 (g3.now hC1.keep) u4 (g4.now hC1.keep) x1 hr1) fun w2 hB2=>have hC2:=hC1.grow hB2;Bx z z<|Ac<|AI z (fun hc1=>?_) (fun hc1=>?_)
 ·replace hF:=AC hF hc1
  refine Ad<|A2 (vs:=[]) hC2 A5 ty75 z z z z (by simp) z z fun b2 w3 hC3 hB3=>?_
  have hC4:=hC3.row0 (α:=(Int × Int))
  have hC5:=hC4.front 1 z
  dsimp only [List.eraseIdx,List.cons_append,List.nil_append,List.append_nil] at hC5
  have hC6:Ctx [] w0 w3 (Ab (.slice (some ⟨b2,0,none⟩) 0 0) (([]:List (Int × Int)):List (Int × Int))::[Af b1 [u3,u4]]):=hC5.rowOwn (by simp [maxLen])
  refine Ae z z<|Ae z z<|Ac<|AP<|Az<|?_
  obtain rfl:=Aa hF
  refine Cd z z z ?_
  have hC7:=hC6.triv (BK (false))
  have hC8:=hC7.f1
  exact ⟨_,z,res2_of hC8⟩
 replace hF:=AD hF hc1
 refine AJ<|Am<|Ad<|Ag z z<|A9 [u3,u4] hC2 0 z z z AT A4 z z<|be hF fun x2 hr2 hF=>A7 Tryz.call74 z z (c_S_l6Greedy a2 u2 (g2.now hC2.keep) (a3.1,a3.2) u3 (g3.now hC2.keep) u4 (g4.now hC2.keep) x2 hr2)<|?_
 rintro v1 w4 ⟨hB4,F1,hv2,hn1,hb1⟩
 have hC9:=hC2.push hB4 (A:=Ab v1 x2) hv2 hn1 hb1
 refine Ae z z<|Ac<|A6<|Ad<|Ag z z<|AZ A5 (hC9.ro 0 z) z z<|fd A0 AU z z z z<|Ao hC9 1 z z Ba z z<|AZ Ax g4 z z<|Bo z z z<|Ac<|AI z (fun hc2=>?_) (fun hc2=>?_)
 ·replace hF:=AC hF hc2
  refine Ad<|A2 (vs:=[]) hC9 A5 ty75 z z z z (by simp) z z fun b3 w5 hC10 hB5=>?_
  have hC11:=hC10.row0 (α:=(Int × Int))
  have hC12:=hC11.front 1 z
  dsimp only [List.eraseIdx,List.cons_append,List.nil_append,List.append_nil] at hC12
  have hC13:Ctx [] w0 w5 (Ab (.slice (some ⟨b3,0,none⟩) 0 0) (([]:List (Int × Int)):List (Int × Int))::[Ab v1 (x2:(List (Int × Int))),Af b1 [u3,u4]]):=hC12.rowOwn (by simp [maxLen])
  refine Ae z z<|Ae z z<|Ac<|AP<|Az<|?_
  obtain rfl:=Aa hF
  refine Cd z z z ?_
  have hC14:=hC13.triv (BK (false))
  have hC15:=hC14.f1
  exact ⟨_,z,res2_of hC15⟩
 replace hF:=AD hF hc2
 refine AJ<|Am<|Ad<|Ag z z<|Ae z z<|Ae z z<|Ac<|AP<|?_
 obtain rfl:=Aa hF
 refine Cd z z z ?_
 have hC16:=hC9.triv (BK (true))
 have hC17:=hC16.f1
 exact ⟨_,z,res2_of hC17⟩
theorem c_Q_sameInts {w0:World} (a1:(List Int)) (u1:Value) (g1:RO [] w0 u1 a1) (a2:(List Int)) (u2:Value) (g2:RO [] w0 u2 a2) (rr:Bool) (hF:Q.sameInts a1 a2=some rr) :
 Calls Tryz.prog 34 [u1,u2].toArray w0 fun e w'=>∃v,e=.returned v∧Res w0 rr v w':=by
 refine Au Tryz.func34 z z ?_
 have hC0:=AA w0
 unfold Q.sameInts at hF
 refine Ad<|Ae z z<|Ac<|A6<|Ad<|Ag z z<|AZ Ah g1 z z<|Ag z z<|AZ Ah g2 z z<|C4 z z z<|Ac<|AI z (fun hc1=>?_) (fun hc1=>?_)
 ·replace hF:=AC hF hc1
  refine Ad<|Ae z z<|Ac<|AP<|Az<|?_
  obtain rfl:=Aa hF
  exact A8 z z<|⟨_,z,AR hC0 _⟩
 replace hF:=AD hF hc1
 refine AJ<|Am<|A6<|Ad<|Ae z z<|Ac<|be hF fun r1 hr1 hF=>Bd (fun l w=>.inl ()=r1∧l=[]∧Below w0.heap.size w0 w∧Ctx [] w0 w []) ?_ ?_
 ·refine AH<|wS (l':=[(0,u1),(1,u2),(5,(I 0))]) ⟨z,z,z,Ai⟩<|Bu (fun k l w=>∃x1:Int,l=[(0,u1),(1,u2),(5,(I x1))]∧Below w0.heap.size w0 w∧Ctx [] w0 w []∧Q.sameInts_l1 a1 a2 k x1=some r1) FUEL ⟨0,z,(Al _ _),hC0,hr1⟩<|?_
  clear hr1
  rintro k1 _ w1 ⟨x1,rfl,hB1,hC1,hL1⟩
  cases k1 with
  | zero=>rw [Q.sameInts_l1] at hL1; cases hL1
  | succ k1 =>
   rw [Q.sameInts_l1] at hL1
   refine A6<|Ad<|Ag z z<|Ag z z<|AZ Ah g1 z z<|Bo z z z<|Ac<|AI z (fun hc2=>?_) (fun hc2=>?_)
   ·replace hL1:=AC hL1 hc2
    refine AJ<|Am<|A6<|AH<|A6<|B1 9 z hmix fun w2 hB2=>have hC2:=hC1.grow hB2;tm 0 z z z<|tm 1 z z z<|be hL1 fun x2 hx1 hL1=>tk 2 z z (B4 Ah ty3 g1 hx1 z z)<|AG Ah ty3 g1 hx1 z z z fun b1 o1 h1=>Ac<|tm 4 z z z<|tm 5 z z z<|be hL1 fun x3 hx2 hL1=>tk 6 z z (B4 Ah ty3 g2 hx2 z z)<|AG Ah ty3 g2 hx2 z z z fun b2 o2 h2=>Ac<|wAS (l':=[(0,u1),(1,u2),(5,(I x1)),(11,(I x1)),(12,u1),(13,(I (List.length a1:Int))),(14,(.bool (decide (x1 < (List.length a1:Int))))),(17,u1),(18,(I x1)),(19,(ptr b1 o1)),(21,u2),(22,(I x1)),(23,(ptr b2 o2))]) ⟨z,z,z,z,z,z,z,z,z,z,z,z,z,Ai⟩<|Bw [⟨3,[],fun vs=>Bh (I x2),[]⟩,⟨7,[],fun vs=>Bh (I x3),[]⟩] [[],[]] 1 z (by kernel_rfl) (by kernel_rfl) z ?_ ?_
    ·refine An z ?_ ?_
     ·intro w3 hB3
      refine Ar<|⟨_,z,?_⟩
      refine A3 ty3 h1 (hC2.keep.then hB3) z z (fun v1 h3=>?_)
      obtain rfl:=Bn h3
      exact Ac<|Ay (Al _ _) z z ⟨z,z⟩
     refine An z ?_ ?_
     ·intro w3 hB3
      refine Ar<|⟨_,z,?_⟩
      refine A3 ty3 h2 (hC2.keep.then hB3) z z (fun v2 h4=>?_)
      obtain rfl:=Bn h4
      exact Ac<|Ay (Al _ _) z z ⟨z,z⟩
     exact Bp
    intro w4 hB4
    refine At z z z ?_
    rintro _ _ ⟨rfl,rfl⟩
    refine At z z z ?_
    rintro _ _ ⟨rfl,rfl⟩
    refine B0 fun hn1 hb1=>have hC3:=hC2.grow hB4;tk 8 z z (fl_neq z z)<|C4 z z z<|Ac<|dn<|Am<|AI z (fun hc3=>?_) (fun hc3=>?_)
    ·replace hL1:=AC hL1 hc3
     refine Ad<|Ae z z<|Ac<|AP<|Bk<|Az<|Az<|Bk<|Az<|Az<|?_
     obtain rfl:=Aa hL1
     dsimp only at hF
     obtain rfl:=Aa hF
     exact A8 z z<|⟨_,z,AR hC3 _⟩
    replace hL1:=AD hL1 hc3
    exact AJ<|AM<|Am<|Bb<|Ag z z<|Bj z z z<|Ae z z<|Ac<|Ak (l':=[(0,u1),(1,u2),(5,(I (w64 (x1+1))))]) ⟨z,z,z,Ai⟩<|⟨k1,Av _,w64 (x1+1),z,(((Ap hB1).then hB2).then hB4).below,hC3,hL1⟩
   replace hL1:=AD hL1 hc2
   refine Bt (A1 (A1 (Be ?_)))
   obtain rfl:=Aa hL1
   exact Ak (l':=[]) Ai<|⟨z,z,(Ap hB1).below,hC1⟩
 rintro l2 _ w5 hs2 ⟨rfl,rfl,hB5,hC4⟩
 try dsimp only at hF
 refine AL hs2 ?_
 clear hs2
 refine Ad<|Ae z z<|Ac<|AP<|?_
 obtain rfl:=Aa hF
 exact A8 z z<|⟨_,z,AR hC4 _⟩
theorem c_Q_has {w0:World} (a1:(List Int)) (u1:Value) (g1:RO [] w0 u1 a1) (a2:Int) (rr:Bool) (hF:Q.has a1 a2=some rr) :
 Calls Tryz.prog 35 [u1,(I a2)].toArray w0 fun e w'=>∃v,e=.returned v∧Res w0 rr v w':=by
 refine Au Tryz.func35 z z ?_
 have hC0:=AA w0
 unfold Q.has at hF
 refine Ad<|Ae z z<|Ac<|A6<|Ad<|Ae z z<|Ac<|be hF fun r1 hr1 hF=>Bd (fun l w=>.inl ()=r1∧l=[]∧Below w0.heap.size w0 w∧Ctx [] w0 w []) ?_ ?_
 ·refine AH<|wS (l':=[(0,u1),(1,(I a2)),(5,(I 0))]) ⟨z,z,z,Ai⟩<|Bu (fun k l w=>∃x1:Int,l=[(0,u1),(1,(I a2)),(5,(I x1))]∧Below w0.heap.size w0 w∧Ctx [] w0 w []∧Q.has_l1 a1 a2 k x1=some r1) FUEL ⟨0,z,(Al _ _),hC0,hr1⟩<|?_
  clear hr1
  rintro k1 _ w1 ⟨x1,rfl,hB1,hC1,hL1⟩
  cases k1 with
  | zero=>rw [Q.has_l1] at hL1; cases hL1
  | succ k1 =>
   rw [Q.has_l1] at hL1
   refine A6<|Ad<|Ag z z<|Ag z z<|AZ Ah g1 z z<|Bo z z z<|Ac<|AI z (fun hc1=>?_) (fun hc1=>?_)
   ·replace hL1:=AC hL1 hc1
    refine AJ<|Am<|A6<|AH<|Ad<|Ag z z<|Ag z z<|be hL1 fun x2 hx1 hL1=>AG Ah ty3 g1 hx1 z z z fun b1 o1 h1=>A3 ty3 h1 hC1.keep z z fun v1 h2=>?_
    obtain rfl:=Bn h2
    refine Ag z z<|BT z z z<|Ac<|AI z (fun hc2=>?_) (fun hc2=>?_)
    ·replace hL1:=AC hL1 hc2
     refine Ad<|Ae z z<|Ac<|AP<|Bk<|Az<|Az<|Bk<|Az<|Az<|?_
     obtain rfl:=Aa hL1
     dsimp only at hF
     obtain rfl:=Aa hF
     exact A8 z z<|⟨_,z,AR hC1 _⟩
    replace hL1:=AD hL1 hc2
    exact AJ<|AM<|Am<|Bb<|Ag z z<|Bj z z z<|Ae z z<|Ac<|Ak (l':=[(0,u1),(1,(I a2)),(5,(I (w64 (x1+1))))]) ⟨z,z,z,Ai⟩<|⟨k1,Av _,w64 (x1+1),z,(Ap hB1).below,hC1,hL1⟩
   replace hL1:=AD hL1 hc1
   refine Bt (A1 (A1 (Be ?_)))
   obtain rfl:=Aa hL1
   exact Ak (l':=[]) Ai<|⟨z,z,(Ap hB1).below,hC1⟩
 rintro l2 _ w2 hs2 ⟨rfl,rfl,hB2,hC2⟩
 try dsimp only at hF
 refine AL hs2 ?_
 clear hs2
 refine Ad<|Ae z z<|Ac<|AP<|?_
 obtain rfl:=Aa hF
 exact A8 z z<|⟨_,z,AR hC2 _⟩
end Go.Gx.Px
