/- The contracts of the Go functions against the pure functions, printed by program. Conditions: each says them. -/
import Derived.Test.YtdkfiadoiapnbaaGreatC5
set_option linter.unusedVariables false
set_option linter.unusedSimpArgs false
set_option maxRecDepth 100000
set_option maxHeartbeats 4000000
namespace Go.Gx.Px
open Go.Proofs Go.RowKit
open K9
theorem c_S_DrawIsOrder {w0:World} (a1:(List UInt8)) (u1:Value) (g1:RO [] w0 u1 a1) (rr:((List Int) × (List (Int × (List Int) × Int × Int × Int)) × ((List Int) × (List (Int × (List Int)))) × (List (Int × Int)))) (hF:S.DrawIsOrder a1=some rr) :
 Calls Tryz.prog 76 [u1].toArray w0 fun e w'=>∃v,e=.returned v∧∃q0:Value,∃q1:Value,∃q2:Value,∃q3:Value,v=(.tuple #[q0,q1,q2,q3])∧Ctx [] w0 w' [Ab q0 (rr.1:(List Int)),Ab q1 (rr.2.1:(List (Int × (List Int) × Int × Int × Int))),Ab q2 (rr.2.2.1:((List Int) × (List (Int × (List Int))))),Ab q3 (rr.2.2.2:(List (Int × Int)))]:=by
 refine Au Tryz.func76 z z ?_
 have hC0:=AA w0
 unfold S.DrawIsOrder at hF
 refine Ad<|Ae z z<|Ae z z<|By hC0 zero37 z z fun b1 w1 hC1 hB1 hN1=>Ae z z<|Ac<|Ad<|Ag z z<|be hF fun x1 hr1 hF=>A7 Tryz.call75 z z (c_S_l1New a1 u1 (g1.now hC1.keep) x1 hr1)<|?_
 rintro _ w2 ⟨b2,rfl,hq1⟩
 have hC2:Ctx [] w0 w2 [Af b2 [u1,(I x1.2.1),(I x1.2.2)],Af b1 [(.slice none 0 0),(.slice none 0 0)]]:=hC1.push2 hq1
 refine Ae z z<|Ac<|Ad<|Ag z z<|be hF fun x2 hr2 hF=>?_
 obtain ⟨Fs2,hH2,hn2,hF2,hO2,hb2⟩:=AW (As:=[Af b1 [(.slice none 0 0),(.slice none 0 0)]]) [Af b2 [u1,(I x1.2.1),(I x1.2.2)]] hC2
 refine A7 Tryz.call102 z z (c_S_l6Draw b2 (a1,x1.2.1,x1.2.2) u1 (Bf g1 hC2.keep hF2) hH2 hn2 x2 hr2) ?_
 rintro _ w3 ⟨v1,v2,v3,rfl,hq2⟩
 have hC3:Ctx [] w0 w3 [Ab v1 (x2.1:(List Int)),Ab v2 (x2.2.1:(List (Int × (List Int) × Int × Int × Int))),Ab v3 (x2.2.2.1:((List Int) × (List (Int × (List Int))))),Af b2 [u1,(I x2.2.2.2.2.1),(I x2.2.2.2.2.2)],Af b1 [(.slice none 0 0),(.slice none 0 0)]]:=hb2 _ _ hq2
 have hC4:=hC3.f2
 obtain ⟨v4,v5,rfl,hC5⟩:=st37_own hC4
 refine Ag z z<|AF z z z<|AF z z z<|AF z z z<|By hC5 zero37 z z fun b3 w4 hC6 hB2 hN2=>Ae z z<|Ae z z<|AO (cs':=[v4,v5]) (new:=[v4,v5]) hC6 0 z z (fac (Bz (hC6.ro 1 z))<|fac (Bz (hC6.ro 2 z))<|fa0) z A4 z z fun w5 hC7 hKp1=>?_
 try dsimp only [List.set] at hC7
 have hk1:=AY (Ap hB2) hN2 hKp1
 refine Ac<|Ad<|A2 (vs:=[]) hC7 A5 ty75 z z z z (by simp) z z fun b4 w6 hC8 hB3=>?_
 have hC9:=hC8.row0 (α:=(Int × Int))
 have hC10:=hC9.front 1 z
 dsimp only [List.eraseIdx,List.cons_append,List.nil_append,List.append_nil] at hC10
 have hC11:Ctx [] w0 w6 (Ab (.slice (some ⟨b4,0,none⟩) 0 0) (([]:List (Int × Int)):List (Int × Int))::[Af b3 [v4,v5],Ab v4 (x2.2.2.1.1:(List Int)),Ab v5 (x2.2.2.1.2:(List (Int × (List Int)))),Ab v1 (x2.1:(List Int)),Ab v2 (x2.2.1:(List (Int × (List Int) × Int × Int × Int))),Af b2 [u1,(I x2.2.2.2.2.1),(I x2.2.2.2.2.2)],Af b1 [(.slice none 0 0),(.slice none 0 0)]]):=hC10.rowOwn (by simp [maxLen])
 refine Ae z z<|Ac<|A6<|Ad<|Ae z z<|Ac<|be hF fun r1 hr3 hF=>Bd (fun l w=>∃x7:Int,∃x8:Int,∃v7:Value,∃x9:(List (Int × Int)),(x7,x8,x9)=r1∧l=[(4,(ptr b1 0)),(6,(ptr b2 0)),(7,v1),(8,v2),(9,(ptr b3 0)),(10,v7)]∧Ctx [] w0 w [Ab v7 (x9:(List (Int × Int))),Af b3 [v4,v5],Ab v4 (x2.2.2.1.1:(List Int)),Ab v5 (x2.2.2.1.2:(List (Int × (List Int)))),Ab v1 (x2.1:(List Int)),Ab v2 (x2.2.1:(List (Int × (List Int) × Int × Int × Int))),Af b2 [u1,(I x7),(I x8)],Af b1 [(.slice none 0 0),(.slice none 0 0)]]) ?_ ?_
 ·refine AH<|wS (l':=[(4,(ptr b1 0)),(6,(ptr b2 0)),(7,v1),(8,v2),(9,(ptr b3 0)),(10,(.slice (some ⟨b4,0,none⟩) 0 0)),(11,(I 0))]) ⟨z,z,z,z,z,z,z,Ai⟩<|Bu (fun k l w=>∃x3:Int,∃x4:Int,∃v6:Value,∃x5:(List (Int × Int)),∃x6:Int,l=[(4,(ptr b1 0)),(6,(ptr b2 0)),(7,v1),(8,v2),(9,(ptr b3 0)),(10,v6),(11,(I x6))]∧Ctx [] w0 w [Ab v6 (x5:(List (Int × Int))),Af b3 [v4,v5],Ab v4 (x2.2.2.1.1:(List Int)),Ab v5 (x2.2.2.1.2:(List (Int × (List Int)))),Ab v1 (x2.1:(List Int)),Ab v2 (x2.2.1:(List (Int × (List Int) × Int × Int × Int))),Af b2 [u1,(I x3),(I x4)],Af b1 [(.slice none 0 0),(.slice none 0 0)]]∧S.DrawIsOrder_l1 x2 a1 k x3 x4 x5 x6=some r1) FUEL ⟨x2.2.2.2.2.1,x2.2.2.2.2.2,(.slice (some ⟨b4,0,none⟩) 0 0),([]:List (Int × Int)),0,z,hC11,hr3⟩<|?_
  clear hr3
  rintro k1 _ w7 ⟨x3,x4,v6,x5,x6,rfl,hC12,hL1⟩
  cases k1 with
  | zero=>rw [S.DrawIsOrder_l1] at hL1; cases hL1
  | succ k1 =>
   rw [S.DrawIsOrder_l1] at hL1
   refine A6<|Ad<|Ag z z<|fd A0 AU z z z z<|Ao hC12 1 z z Ba z z<|AZ Ax (hC12.ro 3 z) z z<|Bo z z z<|Ac<|AI z (fun hc1=>?_) (fun hc1=>?_)
   ·replace hL1:=AC hL1 hc1
    refine AJ<|Am<|A6<|AH<|Bb<|Ag z z<|Ag z z<|Ag z z<|be hL1 fun x10 hr4 hL1=>have hC13:=hC12.f6;?_
    obtain ⟨Fs3,hH3,hn3,hF3,hO3,hb3⟩:=AW (As:=[Ab v6 (x5:(List (Int × Int))),Af b3 [v4,v5],Ab v4 (x2.2.2.1.1:(List Int)),Ab v5 (x2.2.2.1.2:(List (Int × (List Int)))),Ab v1 (x2.1:(List Int)),Ab v2 (x2.2.1:(List (Int × (List Int) × Int × Int × Int))),Af b1 [(.slice none 0 0),(.slice none 0 0)]]) [Af b2 [u1,(I x3),(I x4)]] hC13
    refine A7 B2 z z (c_S_l1Below b2 (a1,x3,x4) u1 (Bf g1 hC13.keep hF3) 4 hH3 hn3 x10 hr4) ?_
    rintro _ w9 ⟨rfl,hq3⟩
    have hC14:Ctx [] w0 w9 [Af b2 [u1,(I x10.2.2.1),(I x10.2.2.2)],Ab v6 (x5:(List (Int × Int))),Af b3 [v4,v5],Ab v4 (x2.2.2.1.1:(List Int)),Ab v5 (x2.2.2.1.2:(List (Int × (List Int)))),Ab v1 (x2.1:(List Int)),Ab v2 (x2.2.1:(List (Int × (List Int) × Int × Int × Int))),Af b1 [(.slice none 0 0),(.slice none 0 0)]]:=hb3 _ _ hq3
    refine Ck (vs:=[(0,(I x6)),(1,(I x10.1))]) z z z (built75_0_1 z z)<|A2 (vs:=[(.agg #[(I x6),(I x10.1)])]) hC14 A5 ty75 z z z z (fac z<|fa0) z z fun b5 w10 hC15 hB5=>?_
    have hC16:=hC15.row0 (α:=(Int × Int))
    have hC17:=C5 x6 x10.1 hC16
    have hC18:=hC17.row1
    have hC19:=hC18.front 1 z
    dsimp only [List.eraseIdx,List.cons_append,List.nil_append,List.append_nil] at hC19
    have hC20:Ctx [] w0 w10 (Ab (.slice (some ⟨b5,0,none⟩) 1 1) ([(x6,x10.1)]:List (Int × Int))::[Af b2 [u1,(I x10.2.2.1),(I x10.2.2.2)],Ab v6 (x5:(List (Int × Int))),Af b3 [v4,v5],Ab v4 (x2.2.2.1.1:(List Int)),Ab v5 (x2.2.2.1.2:(List (Int × (List Int)))),Ab v1 (x2.1:(List Int)),Ab v2 (x2.2.1:(List (Int × (List Int) × Int × Int × Int))),Af b1 [(.slice none 0 0),(.slice none 0 0)]]):=hC19.rowOwn (by simp [maxLen])
    refine be hL1 fun x11 hx1 hL1=>Bi (α:=(Int × Int)) hC20 2 z (hC20.ro 0 z) (Aq _ _) A5 ty75 z hx1 z z z fun v8 w11 hC21=>?_
    try dsimp only [List.set] at hC21
    exact Ae z z<|Ac<|AM<|Am<|Bb<|Ag z z<|Bj z z z<|Ae z z<|Ac<|have hC22:=hC21.f8;have hC23:=hC22.f2;have hC24:=hC23.f8;have hC25:=hC24.f8;have hC26:=hC25.f8;have hC27:=hC26.f8;have hC28:=hC27.f8;have hC29:=hC28.f8;have hC30:=hC29.h8;Ak (l':=[(4,(ptr b1 0)),(6,(ptr b2 0)),(7,v1),(8,v2),(9,(ptr b3 0)),(10,v8),(11,(I (w64 (x6+1))))]) ⟨z,z,z,z,z,z,z,Ai⟩<|⟨k1,Av _,x10.2.2.1,x10.2.2.2,v8,x11,w64 (x6+1),z,hC30,hL1⟩
   replace hL1:=AD hL1 hc1
   refine Bt (A1 (A1 (Be ?_)))
   obtain rfl:=Aa hL1
   exact Ak (l':=[(4,(ptr b1 0)),(6,(ptr b2 0)),(7,v1),(8,v2),(9,(ptr b3 0)),(10,v6)]) ⟨z,z,z,z,z,z,Ai⟩<|⟨x3,x4,v6,x5,z,z,hC12⟩
 rintro l2 _ w12 hs2 ⟨x7,x8,v7,x9,rfl,rfl,hC31⟩
 try dsimp only at hF
 refine AL hs2 ?_
 clear hs2
 refine A6<|be hF fun r2 hr5 hF=>BA (fun l w=>∃x12:Int,∃x13:Int,∃x14:Bool,(x12,x13,x14)=r2∧l=[(4,(ptr b1 0)),(6,(ptr b2 0)),(7,v1),(8,v2),(9,(ptr b3 0)),(10,v7),(46,(.bool x14))]∧Ctx [] w0 w [Ab v7 (x9:(List (Int × Int))),Af b3 [v4,v5],Ab v4 (x2.2.2.1.1:(List Int)),Ab v5 (x2.2.2.1.2:(List (Int × (List Int)))),Ab v1 (x2.1:(List Int)),Ab v2 (x2.2.1:(List (Int × (List Int) × Int × Int × Int))),Af b2 [u1,(I x12),(I x13)],Af b1 [(.slice none 0 0),(.slice none 0 0)]]) ?_ ?_
 ·refine Bb<|Ag z z<|be hr5 fun x15 hr6 hr5=>have hC33:=hC31.f6;?_
  obtain ⟨Fs4,hH4,hn4,hF4,hO4,hb4⟩:=AW (As:=[Ab v7 (x9:(List (Int × Int))),Af b3 [v4,v5],Ab v4 (x2.2.2.1.1:(List Int)),Ab v5 (x2.2.2.1.2:(List (Int × (List Int)))),Ab v1 (x2.1:(List Int)),Ab v2 (x2.2.1:(List (Int × (List Int) × Int × Int × Int))),Af b1 [(.slice none 0 0),(.slice none 0 0)]]) [Af b2 [u1,(I x7),(I x8)]] hC33
  refine A7 Cg z z (c_S_l1Once b2 (a1,x7,x8) u1 (Bf g1 hC33.keep hF4) 2 hH4 hn4 x15 hr6) ?_
  rintro _ w14 ⟨rfl,hq5⟩
  have hC34:Ctx [] w0 w14 [Af b2 [u1,(I x15.2.2.1),(I x15.2.2.2)],Ab v7 (x9:(List (Int × Int))),Af b3 [v4,v5],Ab v4 (x2.2.2.1.1:(List Int)),Ab v5 (x2.2.2.1.2:(List (Int × (List Int)))),Ab v1 (x2.1:(List Int)),Ab v2 (x2.2.1:(List (Int × (List Int) × Int × Int × Int))),Af b1 [(.slice none 0 0),(.slice none 0 0)]]:=hb4 _ _ hq5
  refine Ag z z<|Br (fun hc2=>?_) (fun hc2=>?_)
  ·replace hr5:=AC hr5 hc2
   refine Aj z z<|Ag z z<|Aj z z<|Ag z z<|be hr5 fun x16 hr7 hr5=>Aj z z<|cb Tryz.call89 z z (c_S_AreMethods x2.1 v1 ((hC34.ro 5 z).now (Aq _ _)) x2.2.1 v2 ((hC34.ro 6 z).now (Aq _ _)) x16 hr7) fun w15 hB8=>have hC35:=hC34.grow hB8;AV z z z<|Ag z z<|Br (fun hc3=>?_) (fun hc3=>?_)
   ·replace hr5:=AC hr5 hc3
    refine Aj z z<|Ag z z<|Aj z z<|A9 [v4,v5] hC35 2 z z z AT A4 z z<|be hr5 fun x17 hr8 hr5=>Aj z z<|cb Tryz.call90 z z (c_S_IsQuery x2.1 v1 ((hC35.ro 5 z).now (Aq _ _)) (x2.2.2.1.1,x2.2.2.1.2) v4 ((hC35.ro 3 z).now (Aq _ _)) v5 ((hC35.ro 4 z).now (Aq _ _)) x17 hr8) fun w16 hB9=>have hC36:=hC35.grow hB9;AV z z z<|Ac<|?_
    obtain rfl:=Aa hr5
    have hC37:=hC36.f7
    have hC38:=hC37.f1
    have hC39:=hC38.f7
    have hC40:=hC39.f7
    have hC41:=hC40.f7
    have hC42:=hC41.f7
    have hC43:=hC42.f7
    have hC44:=hC43.f7
    exact Ak (l':=[(4,(ptr b1 0)),(6,(ptr b2 0)),(7,v1),(8,v2),(9,(ptr b3 0)),(10,v7),(46,(.bool x17))]) ⟨z,z,z,z,z,z,z,Ai⟩<|⟨x15.2.2.1,x15.2.2.2,x17,z,z,hC44⟩
   replace hr5:=AD hr5 hc3
   refine gs z z z z<|gs z z z z<|gs z z z z<|AS z z z<|Ac<|?_
   obtain rfl:=Aa hr5
   have hC45:=hC35.f7
   have hC46:=hC45.f1
   have hC47:=hC46.f7
   have hC48:=hC47.f7
   have hC49:=hC48.f7
   have hC50:=hC49.f7
   have hC51:=hC50.f7
   have hC52:=hC51.f7
   exact Ak (l':=[(4,(ptr b1 0)),(6,(ptr b2 0)),(7,v1),(8,v2),(9,(ptr b3 0)),(10,v7),(46,(.bool false))]) ⟨z,z,z,z,z,z,z,Ai⟩<|⟨x15.2.2.1,x15.2.2.2,false,z,z,hC52⟩
  replace hr5:=AD hr5 hc2
  refine gs z z z z<|gs z z z z<|gs z z z z<|AS z z z<|Ag z z<|gs z z z z<|gs z z z z<|gs z z z z<|AS z z z<|Ac<|?_
  obtain rfl:=Aa hr5
  have hC53:=hC34.f7
  have hC54:=hC53.f1
  have hC55:=hC54.f7
  have hC56:=hC55.f7
  have hC57:=hC56.f7
  have hC58:=hC57.f7
  have hC59:=hC58.f7
  have hC60:=hC59.f7
  exact Ak (l':=[(4,(ptr b1 0)),(6,(ptr b2 0)),(7,v1),(8,v2),(9,(ptr b3 0)),(10,v7),(46,(.bool false))]) ⟨z,z,z,z,z,z,z,Ai⟩<|⟨x15.2.2.1,x15.2.2.2,false,z,z,hC60⟩
 rintro _ w13 ⟨x12,x13,x14,rfl,rfl,hC32⟩
 try dsimp only at hF
 refine be hF fun r3 hr9 hF=>Bd (fun l w=>∃v9:Value,∃x18:(List (Int × Int)),x18=r3∧l=[(4,(ptr b1 0)),(6,(ptr b2 0)),(7,v1),(8,v2),(9,(ptr b3 0)),(10,v9)]∧Below w13.heap.size w13 w∧Ctx [] w0 w [Ab v9 (x18:(List (Int × Int))),Af b3 [v4,v5],Ab v4 (x2.2.2.1.1:(List Int)),Ab v5 (x2.2.2.1.2:(List (Int × (List Int)))),Ab v1 (x2.1:(List Int)),Ab v2 (x2.2.1:(List (Int × (List Int) × Int × Int × Int))),Af b2 [u1,(I x12),(I x13)],Af b1 [(.slice none 0 0),(.slice none 0 0)]]) ?_ ?_
 ·refine AI z (fun hc4=>?_) (fun hc4=>?_)
  ·replace hr9:=AC hr9 hc4
   refine Bb<|Ag z z<|Ag z z<|A9 [v4,v5] hC32 1 z z z AT A4 z z<|be hr9 fun x19 hr10 hr9=>A7 Tryz.call33 z z (c_S_FindOrder x2.1 v1 ((hC32.ro 4 z).now (Aq _ _)) x2.2.1 v2 ((hC32.ro 5 z).now (Aq _ _)) (x2.2.2.1.1,x2.2.2.1.2) v4 ((hC32.ro 2 z).now (Aq _ _)) v5 ((hC32.ro 3 z).now (Aq _ _)) x19 hr10)<|?_
   rintro _ w18 ⟨hB11,v10,v11,F1,F2,rfl,hv3,hv4,hn5,hb5⟩
   obtain ⟨rfl,rfl⟩:=val_bool hv4
   have hC62:=hC32.pushL hB11 (Bs:=[Ab v10 x19.1]) (Fs:=[F1]) ⟨F1,_,z,hv3,z⟩ (by simpa using hn5) (fun b h=>hb5 b (by simpa using h))
   refine Ag z z<|AF z z z<|AF z z z<|Ae z z<|Ac<|?_
   obtain rfl:=Aa hr9
   have hC63:=hC62.f8
   have hC64:=hC63.f8
   have hC65:=hC64.f8
   have hC66:=hC65.f8
   have hC67:=hC66.f8
   have hC68:=hC67.f8
   have hC69:=hC68.f8
   have hC70:=hC69.f7
   have hC71:=hC70.h8
   exact Ak (l':=[(4,(ptr b1 0)),(6,(ptr b2 0)),(7,v1),(8,v2),(9,(ptr b3 0)),(10,v10)]) ⟨z,z,z,z,z,z,Ai⟩<|⟨v10,x19.1,z,z,(Ap hB11).below,hC71⟩
  replace hr9:=AD hr9 hc4
  refine AJ ?_
  obtain rfl:=Aa hr9
  exact Ak (l':=[(4,(ptr b1 0)),(6,(ptr b2 0)),(7,v1),(8,v2),(9,(ptr b3 0)),(10,v7)]) ⟨z,z,z,z,z,z,Ai⟩<|⟨v7,x9,z,z,(Al _ _),hC32⟩
 rintro l4 _ w17 hs4 ⟨v9,x18,rfl,rfl,hB10,hC61⟩
 try dsimp only at hF
 refine AL hs4 ?_
 clear hs4
 refine A6<|Ad<|Ag z z<|be hF fun x20 hr11 hF=>have hC72:=hC61.f6;?_
 obtain ⟨Fs5,hH5,hn6,hF5,hO5,hb6⟩:=AW (As:=[Ab v9 (x18:(List (Int × Int))),Af b3 [v4,v5],Ab v4 (x2.2.2.1.1:(List Int)),Ab v5 (x2.2.2.1.2:(List (Int × (List Int)))),Ab v1 (x2.1:(List Int)),Ab v2 (x2.2.1:(List (Int × (List Int) × Int × Int × Int))),Af b1 [(.slice none 0 0),(.slice none 0 0)]]) [Af b2 [u1,(I x12),(I x13)]] hC72
 refine A7 Cg z z (c_S_l1Once b2 (a1,x12,x13) u1 (Bf g1 hC72.keep hF5) 8 hH5 hn6 x20 hr11) ?_
 rintro _ w19 ⟨rfl,hq11⟩
 have hC73:Ctx [] w0 w19 [Af b2 [u1,(I x20.2.2.1),(I x20.2.2.2)],Ab v9 (x18:(List (Int × Int))),Af b3 [v4,v5],Ab v4 (x2.2.2.1.1:(List Int)),Ab v5 (x2.2.2.1.2:(List (Int × (List Int)))),Ab v1 (x2.1:(List Int)),Ab v2 (x2.2.1:(List (Int × (List Int) × Int × Int × Int))),Af b1 [(.slice none 0 0),(.slice none 0 0)]]:=hb6 _ _ hq11
 refine Ac<|be hF fun r4 hr12 hF=>Bd (fun l w=>∃x21:Int,∃x22:Int,∃v12:Value,∃x23:(List (Int × Int)),(x21,x22,x23)=r4∧l=[(4,(ptr b1 0)),(7,v1),(8,v2),(9,(ptr b3 0)),(10,v12)]∧Ctx [] w0 w [Ab v12 (x23:(List (Int × Int))),Af b3 [v4,v5],Ab v4 (x2.2.2.1.1:(List Int)),Ab v5 (x2.2.2.1.2:(List (Int × (List Int)))),Ab v1 (x2.1:(List Int)),Ab v2 (x2.2.1:(List (Int × (List Int) × Int × Int × Int))),Af b1 [(.slice none 0 0),(.slice none 0 0)]]) ?_ ?_
 ·refine AI z (fun hc5=>?_) (fun hc5=>?_)
  ·replace hr12:=AC hr12 hc5
   refine Bb<|Ag z z<|Ag z z<|be hr12 fun x24 hr13 hr12=>?_
   obtain ⟨Fs6,hH6,hn7,hF6,hO6,hb7⟩:=AW (As:=[Ab v9 (x18:(List (Int × Int))),Af b3 [v4,v5],Ab v4 (x2.2.2.1.1:(List Int)),Ab v5 (x2.2.2.1.2:(List (Int × (List Int)))),Ab v1 (x2.1:(List Int)),Ab v2 (x2.2.1:(List (Int × (List Int) × Int × Int × Int))),Af b1 [(.slice none 0 0),(.slice none 0 0)]]) [Af b2 [u1,(I x20.2.2.1),(I x20.2.2.2)]] hC73
   refine A7 B2 z z (c_S_l1Below b2 (a1,x20.2.2.1,x20.2.2.2) u1 (Bf g1 hC73.keep hF6) 4 hH6 hn7 x24 hr13) ?_
   rintro _ w21 ⟨rfl,hq12⟩
   have hC75:Ctx [] w0 w21 [Af b2 [u1,(I x24.2.2.1),(I x24.2.2.2)],Ab v9 (x18:(List (Int × Int))),Af b3 [v4,v5],Ab v4 (x2.2.2.1.1:(List Int)),Ab v5 (x2.2.2.1.2:(List (Int × (List Int)))),Ab v1 (x2.1:(List Int)),Ab v2 (x2.2.1:(List (Int × (List Int) × Int × Int × Int))),Af b1 [(.slice none 0 0),(.slice none 0 0)]]:=hb7 _ _ hq12
   refine BN z z z<|Ag z z<|be hr12 fun x25 hr14 hr12=>?_
   obtain ⟨Fs7,hH7,hn8,hF7,hO7,hb8⟩:=AW (As:=[Ab v9 (x18:(List (Int × Int))),Af b3 [v4,v5],Ab v4 (x2.2.2.1.1:(List Int)),Ab v5 (x2.2.2.1.2:(List (Int × (List Int)))),Ab v1 (x2.1:(List Int)),Ab v2 (x2.2.1:(List (Int × (List Int) × Int × Int × Int))),Af b1 [(.slice none 0 0),(.slice none 0 0)]]) [Af b2 [u1,(I x24.2.2.1),(I x24.2.2.2)]] hC75
   refine A7 B2 z z (c_S_l1Below b2 (a1,x24.2.2.1,x24.2.2.2) u1 (Bf g1 hC75.keep hF7) 6 hH7 hn8 x25 hr14) ?_
   rintro _ w22 ⟨rfl,hq13⟩
   have hC76:Ctx [] w0 w22 [Af b2 [u1,(I x25.2.2.1),(I x25.2.2.2)],Ab v9 (x18:(List (Int × Int))),Af b3 [v4,v5],Ab v4 (x2.2.2.1.1:(List Int)),Ab v5 (x2.2.2.1.2:(List (Int × (List Int)))),Ab v1 (x2.1:(List Int)),Ab v2 (x2.2.1:(List (Int × (List Int) × Int × Int × Int))),Af b1 [(.slice none 0 0),(.slice none 0 0)]]:=hb8 _ _ hq13
   refine BN z z z<|Ck (vs:=[(0,(I (w64 (x24.1 - 1)))),(1,(I (w64 (x25.1 - 1))))]) z z z (built75_0_1 z z)<|A2 (vs:=[(.agg #[(I (w64 (x24.1 - 1))),(I (w64 (x25.1 - 1)))])]) hC76 A5 ty75 z z z z (fac z<|fa0) z z fun b6 w23 hC77 hB13=>?_
   have hC78:=hC77.row0 (α:=(Int × Int))
   have hC79:=C5 (w64 (x24.1 - 1)) (w64 (x25.1 - 1)) hC78
   have hC80:=hC79.row1
   have hC81:=hC80.front 1 z
   dsimp only [List.eraseIdx,List.cons_append,List.nil_append,List.append_nil] at hC81
   have hC82:Ctx [] w0 w23 (Ab (.slice (some ⟨b6,0,none⟩) 1 1) ([(w64 (x24.1 - 1),w64 (x25.1 - 1))]:List (Int × Int))::[Af b2 [u1,(I x25.2.2.1),(I x25.2.2.2)],Ab v9 (x18:(List (Int × Int))),Af b3 [v4,v5],Ab v4 (x2.2.2.1.1:(List Int)),Ab v5 (x2.2.2.1.2:(List (Int × (List Int)))),Ab v1 (x2.1:(List Int)),Ab v2 (x2.2.1:(List (Int × (List Int) × Int × Int × Int))),Af b1 [(.slice none 0 0),(.slice none 0 0)]]):=hC81.rowOwn (by simp [maxLen])
   refine be hr12 fun x26 hx2 hr12=>Bi (α:=(Int × Int)) hC82 2 z (hC82.ro 0 z) (Aq _ _) A5 ty75 z hx2 z z z fun v13 w24 hC83=>?_
   try dsimp only [List.set] at hC83
   refine Ae z z<|Ac<|?_
   obtain rfl:=Aa hr12
   have hC84:=hC83.f8
   have hC85:=hC84.f8
   have hC86:=hC85.f8
   have hC87:=hC86.f8
   have hC88:=hC87.f8
   have hC89:=hC88.f8
   have hC90:=hC89.f8
   have hC91:=hC90.h7
   exact Ak (l':=[(4,(ptr b1 0)),(7,v1),(8,v2),(9,(ptr b3 0)),(10,v13)]) ⟨z,z,z,z,z,Ai⟩<|⟨x25.2.2.1,x25.2.2.2,v13,x26,z,z,hC91⟩
  replace hr12:=AD hr12 hc5
  refine AJ ?_
  obtain rfl:=Aa hr12
  have hC92:=hC73.f7
  have hC93:=hC92.f7
  have hC94:=hC93.f7
  have hC95:=hC94.f7
  have hC96:=hC95.f7
  have hC97:=hC96.f7
  have hC98:=hC97.f7
  have hC99:=hC98.h7
  exact Ak (l':=[(4,(ptr b1 0)),(7,v1),(8,v2),(9,(ptr b3 0)),(10,v9)]) ⟨z,z,z,z,z,Ai⟩<|⟨x20.2.2.1,x20.2.2.2,v9,x18,z,z,hC99⟩
 rintro l5 _ w20 hs5 ⟨x21,x22,v12,x23,rfl,rfl,hC74⟩
 try dsimp only at hF
 refine AL hs5 ?_
 clear hs5
 refine A6<|B1 8 z hmix fun w25 hB14=>have hC100:=hC74.grow hB14;tm 0 z z z<|tm 1 z z z<|tm 3 z z z<|ta 4 z z z<|ta 5 z z z<|oe 2 z<|A9 [v4,v5] hC100 1 z z z AT A4 z z<|Ac<|oe 6 z<|AO (cs':=[v4,v5]) (new:=[v4,v5]) hC100 6 z z (fac (Bz (hC100.ro 2 z))<|fac (Bz (hC100.ro 3 z))<|fa0) z A4 z z fun w26 hC101 hKp2=>?_
 try dsimp only [List.set] at hC101
 refine Ac<|ta 7 z z z<|dn<|Am<|AP<|?_
 obtain rfl:=Aa hF
 refine fn_retG4 z (rv_tmp z) (rv_tmp z) (rv_cell_agg (cs':=[v4,v5]) hC101 (i:=6) z z z AT A4 z) (rv_tmp z)<|have hC104:=hC101.f3;have hC105:=hC104.f3;?_
 have hC103:=C1 v4 x2.2.2.1.1 v5 x2.2.2.1.2 hC105
 have hC106:=hC103.f4
 have hC107:=hC106.f4
 have hC108:=hC107.h4
 exact ⟨_,z,_,_,_,_,z,hC108⟩
theorem c_S_DrawIsPrivateOrder {w0:World} (a1:(List UInt8)) (u1:Value) (g1:RO [] w0 u1 a1) (rr:((List Int) × (List (Int × (List Int) × Int × Int × Int)) × ((List Int) × (List (Int × (List Int)))) × (List (Int × Int)) × (List Int))) (hF:S.DrawIsPrivateOrder a1=some rr) :
 Calls Tryz.prog 36 [u1].toArray w0 fun e w'=>∃v,e=.returned v∧∃q0:Value,∃q1:Value,∃q2:Value,∃q3:Value,∃q4:Value,v=(.tuple #[q0,q1,q2,q3,q4])∧Ctx [] w0 w' [Ab q0 (rr.1:(List Int)),Ab q1 (rr.2.1:(List (Int × (List Int) × Int × Int × Int))),Ab q2 (rr.2.2.1:((List Int) × (List (Int × (List Int))))),Ab q3 (rr.2.2.2.1:(List (Int × Int))),Ab q4 (rr.2.2.2.2:(List Int))]:=by
 refine Au Tryz.func36 z z ?_
 have hC0:=AA w0
 unfold S.DrawIsPrivateOrder at hF
 refine Ad<|Ae z z<|Ae z z<|By hC0 zero37 z z fun b1 w1 hC1 hB1 hN1=>Ae z z<|Ae z z<|Ac<|Ad<|Ag z z<|be hF fun x1 hr1 hF=>A7 Tryz.call75 z z (c_S_l1New a1 u1 (g1.now hC1.keep) x1 hr1)<|?_
 rintro _ w2 ⟨b2,rfl,hq1⟩
 have hC2:Ctx [] w0 w2 [Af b2 [u1,(I x1.2.1),(I x1.2.2)],Af b1 [(.slice none 0 0),(.slice none 0 0)]]:=hC1.push2 hq1
 refine Ae z z<|Ac<|Ad<|Ag z z<|be hF fun x2 hr2 hF=>A7 Tryz.call76 z z (c_S_DrawIsOrder a1 u1 (g1.now hC2.keep) x2 hr2)<|?_
 rintro _ w3 ⟨v1,v2,v3,v4,rfl,hq2⟩
 have hC3:Ctx [] w0 w3 [Ab v1 (x2.1:(List Int)),Ab v2 (x2.2.1:(List (Int × (List Int) × Int × Int × Int))),Ab v3 (x2.2.2.1:((List Int) × (List (Int × (List Int))))),Ab v4 (x2.2.2.2:(List (Int × Int))),Af b2 [u1,(I x1.2.1),(I x1.2.2)],Af b1 [(.slice none 0 0),(.slice none 0 0)]]:=hC2.push2 hq2
 have hC4:=hC3.f2
 obtain ⟨v5,v6,rfl,hC5⟩:=st37_own hC4
 refine Ag z z<|AF z z z<|AF z z z<|AF z z z<|AF z z z<|By hC5 zero37 z z fun b3 w4 hC6 hB2 hN2=>Ae z z<|Ae z z<|AO (cs':=[v5,v6]) (new:=[v5,v6]) hC6 0 z z (fac (Bz (hC6.ro 1 z))<|fac (Bz (hC6.ro 2 z))<|fa0) z A4 z z fun w5 hC7 hKp1=>?_
 try dsimp only [List.set] at hC7
 have hk1:=AY ((((Ap hB1).then hq1.keep.below).then hq2.keep.below).then hB2) (Bg (((Ap hB1).then hq1.keep.below).then hq2.keep.below).size hN2) hKp1
 have hk2:=AY (((Ap hq1.keep.below).then hq2.keep.below).then hB2) (Bg ((Ap hq1.keep.below).then hq2.keep.below).size hN2) hKp1
 have hk3:=AY ((Ap hq2.keep.below).then hB2) (Bg (Ap hq2.keep.below).size hN2) hKp1
 have hk4:=AY (Ap hB2) hN2 hKp1
 refine Ae z z<|Ac<|be hF fun r1 hr3 hF=>BA (fun l w=>∃x3:Int,∃x4:Int,∃v7:Value,∃x5:(List Int),∃v8:Value,∃x6:(List (Int × (List Int))),∃v9:Value,∃x7:(List Int),∃v10:Value,∃x8:(List (Int × (List Int) × Int × Int × Int)),∃v11:Value,∃x9:(List (Int × Int)),∃v12:Value,∃x10:(List Int),(x3,x4,x5,x6,x7,x8,x9,x10)=r1∧l=[(2,v9),(3,v10),(4,(ptr b1 0)),(5,v11),(6,v12)]∧Ctx [] w0 w [Ab v12 (x10:(List Int)),Ab v11 (x9:(List (Int × Int))),Ab v10 (x8:(List (Int × (List Int) × Int × Int × Int))),Ab v9 (x7:(List Int)),Ab v8 (x6:(List (Int × (List Int)))),Ab v7 (x5:(List Int)),Af b1 [v7,v8]]) ?_ ?_
 ·refine B1 11 z hmix fun w7 hB4=>have hC9:=hC7.grow hB4;tm 0 z z z<|tm 1 z z z<|tm 3 z z z<|tm 4 z z z<|BM (i:=2) (j:=5) (by kernel_rfl) z z ?_ ?_
  ·refine A9 [v5,v6] hC9 0 z z z AT A4 z z<|Ac<|be hr3 fun x11 hr4 hr3=>oe 5 z<|have hC10:=hC9.f6;?_
   obtain ⟨Fs3,hH3,hn3,hF3,hO3,hb3⟩:=AW (As:=[Af b3 [v5,v6],Ab v5 (x2.2.2.1.1:(List Int)),Ab v6 (x2.2.2.1.2:(List (Int × (List Int)))),Ab v1 (x2.1:(List Int)),Ab v2 (x2.2.1:(List (Int × (List Int) × Int × Int × Int))),Ab v4 (x2.2.2.2:(List (Int × Int))),Af b1 [(.slice none 0 0),(.slice none 0 0)]]) [Af b2 [u1,(I x1.2.1),(I x1.2.2)]] hC10
   refine A7 CG z z (c_S_l30Private b2 (a1,x1.2.1,x1.2.2) u1 (Bf g1 hC10.keep hF3) hH3 hn3 x11 hr4) ?_
   rintro v13 w9 ⟨_,rfl,hq3⟩
   have hC11:Ctx [] w0 w9 [Ab v13 (x11.1:(List Int)),Af b2 [u1,(I x11.2.2.1),(I x11.2.2.2)],Af b3 [v5,v6],Ab v5 (x2.2.2.1.1:(List Int)),Ab v6 (x2.2.2.1.2:(List (Int × (List Int)))),Ab v1 (x2.1:(List Int)),Ab v2 (x2.2.1:(List (Int × (List Int) × Int × Int × Int))),Ab v4 (x2.2.2.2:(List (Int × Int))),Af b1 [(.slice none 0 0),(.slice none 0 0)]]:=hb3 _ _ hq3
   refine Ac<|ta 6 z z z<|ta 7 z z z<|oe 8 z<|AO (cs':=[v5,v6]) (new:=[v5,v6]) hC11 8 z z (fac (Bz (hC11.ro 3 z))<|fac (Bz (hC11.ro 4 z))<|fa0) z A4 z z fun w10 hC12 hKp2=>?_
   try dsimp only [List.set] at hC12
   refine Ac<|ta 9 z z z<|ta 10 z z z<|dn<|?_
   obtain rfl:=Aa hr3
   have hC13:=hC12.f8
   have hC14:=hC13.f4
   have hC15:=hC14.f5
   have hC16:=hC15.f6
   have hC17:=hC16.f7
   have hC18:=hC17.f8
   have hC19:=hC18.f6
   have hC20:=hC19.h7
   exact Ak (l':=[(2,v1),(3,v2),(4,(ptr b1 0)),(5,v4),(6,v13)]) ⟨z,z,z,z,z,Ai⟩<|⟨x11.2.2.1,x11.2.2.2,v5,x2.2.2.1.1,v6,x2.2.2.1.2,v1,x2.1,v2,x2.2.1,v4,x2.2.2.2,v13,x11.1,z,z,hC20⟩
  refine be hr3 fun x11 hr4 hr3=>have hC10:=hC9.f6;?_
  obtain ⟨Fs3,hH3,hn3,hF3,hO3,hb3⟩:=AW (As:=[Af b3 [v5,v6],Ab v5 (x2.2.2.1.1:(List Int)),Ab v6 (x2.2.2.1.2:(List (Int × (List Int)))),Ab v1 (x2.1:(List Int)),Ab v2 (x2.2.1:(List (Int × (List Int) × Int × Int × Int))),Ab v4 (x2.2.2.2:(List (Int × Int))),Af b1 [(.slice none 0 0),(.slice none 0 0)]]) [Af b2 [u1,(I x1.2.1),(I x1.2.2)]] hC10
  refine A7 CG z z (c_S_l30Private b2 (a1,x1.2.1,x1.2.2) u1 (Bf g1 hC10.keep hF3) hH3 hn3 x11 hr4) ?_
  rintro v13 w9 ⟨_,rfl,hq3⟩
  have hC11:Ctx [] w0 w9 [Ab v13 (x11.1:(List Int)),Af b2 [u1,(I x11.2.2.1),(I x11.2.2.2)],Af b3 [v5,v6],Ab v5 (x2.2.2.1.1:(List Int)),Ab v6 (x2.2.2.1.2:(List (Int × (List Int)))),Ab v1 (x2.1:(List Int)),Ab v2 (x2.2.1:(List (Int × (List Int) × Int × Int × Int))),Ab v4 (x2.2.2.2:(List (Int × Int))),Af b1 [(.slice none 0 0),(.slice none 0 0)]]:=hb3 _ _ hq3
  refine Ac<|ta 6 z z z<|ta 7 z z z<|oe 2 z<|A9 [v5,v6] hC11 2 z z z AT A4 z z<|Ac<|oe 8 z<|AO (cs':=[v5,v6]) (new:=[v5,v6]) hC11 8 z z (fac (Bz (hC11.ro 3 z))<|fac (Bz (hC11.ro 4 z))<|fa0) z A4 z z fun w10 hC12 hKp2=>?_
  try dsimp only [List.set] at hC12
  refine Ac<|ta 9 z z z<|ta 10 z z z<|dn<|?_
  obtain rfl:=Aa hr3
  have hC13:=hC12.f8
  have hC14:=hC13.f4
  have hC15:=hC14.f5
  have hC16:=hC15.f6
  have hC17:=hC16.f7
  have hC18:=hC17.f8
  have hC19:=hC18.f6
  have hC20:=hC19.h7
  exact Ak (l':=[(2,v1),(3,v2),(4,(ptr b1 0)),(5,v4),(6,v13)]) ⟨z,z,z,z,z,Ai⟩<|⟨x11.2.2.1,x11.2.2.2,v5,x2.2.2.1.1,v6,x2.2.2.1.2,v1,x2.1,v2,x2.2.1,v4,x2.2.2.2,v13,x11.1,z,z,hC20⟩
 rintro _ w6 ⟨x3,x4,v7,x5,v8,x6,v9,x7,v10,x8,v11,x9,v12,x10,rfl,rfl,hC8⟩
 try dsimp only at hF
 refine AP ?_
 obtain rfl:=Aa hF
 refine fn_retG5 z (rv_tmp z) (rv_tmp z) (rv_cell_agg (cs':=[v7,v8]) hC8 (i:=6) z z z AT A4 z) (rv_tmp z) (rv_tmp z)<|have hC22:=hC8.f1;have hC24:=hC22.f4;have hC25:=hC24.f5;?_
 have hC23:=C1 v7 x5 v8 x6 hC25
 have hC26:=hC23.f3
 have hC27:=hC26.f4
 have hC28:=hC27.h5
 exact ⟨_,z,_,_,_,_,_,z,hC28⟩
theorem c_S_DrawDisclosed {w0:World} (a1:(List UInt8)) (u1:Value) (g1:RO [] w0 u1 a1) (rr:((List (Int × (List Int) × Int × Int × Int)) × ((List Int) × (List (Int × (List Int)))) × (List (Int × Int)))) (hF:S.DrawDisclosed a1=some rr) :
 Calls Tryz.prog 37 [u1].toArray w0 fun e w'=>∃v,e=.returned v∧Res3 w0 rr.1 rr.2.1 rr.2.2 v w':=by
 refine Au Tryz.func37 z z ?_
 have hC0:=AA w0
 unfold S.DrawDisclosed at hF
 refine Ad<|Ae z z<|By hC0 zero37 z z fun b1 w1 hC1 hB1 hN1=>Ae z z<|Ac<|Ad<|Ag z z<|be hF fun x1 hr1 hF=>A7 Tryz.call76 z z (c_S_DrawIsOrder a1 u1 (g1.now hC1.keep) x1 hr1)<|?_
 rintro _ w2 ⟨v1,v2,v3,v4,rfl,hq1⟩
 have hC2:Ctx [] w0 w2 [Ab v1 (x1.1:(List Int)),Ab v2 (x1.2.1:(List (Int × (List Int) × Int × Int × Int))),Ab v3 (x1.2.2.1:((List Int) × (List (Int × (List Int))))),Ab v4 (x1.2.2.2:(List (Int × Int))),Af b1 [(.slice none 0 0),(.slice none 0 0)]]:=hC1.push2 hq1
 have hC3:=hC2.f2
 obtain ⟨v5,v6,rfl,hC4⟩:=st37_own hC3
 refine Ag z z<|AF z z z<|AF z z z<|AF z z z<|AF z z z<|By hC4 zero37 z z fun b2 w3 hC5 hB2 hN2=>Ae z z<|Ae z z<|AO (cs':=[v5,v6]) (new:=[v5,v6]) hC5 0 z z (fac (Bz (hC5.ro 1 z))<|fac (Bz (hC5.ro 2 z))<|fa0) z A4 z z fun w4 hC6 hKp1=>?_
 try dsimp only [List.set] at hC6
 have hk1:=AY (((Ap hB1).then hq1.keep.below).then hB2) (Bg ((Ap hB1).then hq1.keep.below).size hN2) hKp1
 have hk2:=AY ((Ap hq1.keep.below).then hB2) (Bg (Ap hq1.keep.below).size hN2) hKp1
 have hk3:=AY (Ap hB2) hN2 hKp1
 refine Ae z z<|Ac<|A6<|B1 6 z hmix fun w5 hB3=>have hC7:=hC6.grow hB3;tm 0 z z z<|tm 2 z z z<|ta 3 z z z<|oe 1 z<|A9 [v5,v6] hC7 0 z z z AT A4 z z<|Ac<|oe 4 z<|AO (cs':=[v5,v6]) (new:=[v5,v6]) hC7 6 z z (fac (Bz (hC7.ro 1 z))<|fac (Bz (hC7.ro 2 z))<|fa0) z A4 z z fun w6 hC8 hKp2=>?_
 try dsimp only [List.set] at hC8
 have hk4:=AY (hk1.then hB3) hN1 hKp2
 refine Ac<|ta 5 z z z<|dn<|Am<|AP<|?_
 obtain rfl:=Aa hF
 refine fn_retG3 z (rv_tmp z) (rv_cell_agg (cs':=[v5,v6]) hC8 (i:=6) z z z AT A4 z) (rv_tmp z)<|have hC9:=hC8.f5;have hC11:=hC9.f3;have hC12:=hC11.f3;?_
 have hC10:=C1 v5 x1.2.2.1.1 v6 x1.2.2.1.2 hC12
 have hC13:=hC10.f4
 exact ⟨_,z,res3_of hC13⟩
theorem c_Q_FnPrivacies {w0:World} (a1:(List UInt8)) (u1:Value) (g1:RO [] w0 u1 a1) (rr:Bool) (hF:Q.FnPrivacies a1=some rr) :
 Calls Tryz.prog 6 [u1].toArray w0 fun e w'=>∃v,e=.returned v∧Res w0 rr v w':=by
 refine Au Tryz.func6 z z ?_
 have hC0:=AA w0
 unfold Q.FnPrivacies at hF
 refine Ad<|Ae z z<|Ac<|A6<|Ad<|Ag z z<|be hF fun x1 hr1 hF=>cb Tryz.call30 z z (c_Q_big a1 u1 (g1.now hC0.keep) x1 hr1) fun w1 hB1=>have hC1:=hC0.grow hB1;Ac<|AI z (fun hc1=>?_) (fun hc1=>?_)
 ·replace hF:=AC hF hc1
  refine Ad<|Ae z z<|Ac<|AP<|Az<|?_
  obtain rfl:=Aa hF
  exact A8 z z<|⟨_,z,AR hC1 _⟩
 replace hF:=AD hF hc1
 refine AJ<|Am<|Ad<|Ag z z<|be hF fun x2 hr2 hF=>A7 Tryz.call31 z z (c_S_DrawFindPrivateOrder a1 u1 (g1.now hC1.keep) x2 hr2)<|?_
 rintro _ w2 ⟨v1,v2,v3,v4,rfl,hq2⟩
 have hC2:Ctx [] w0 w2 [Ab v1 (x2.1:(List Int)),Ab v2 (x2.2.1:(List (Int × (List Int) × Int × Int × Int))),Ab v3 (x2.2.2.1:((List Int) × (List (Int × (List Int))))),Ab v4 (x2.2.2.2:(List Int))]:=hC1.push2 hq2
 have hC3:=hC2.f2
 obtain ⟨v5,v6,rfl,hC4⟩:=st37_own hC3
 refine Ag z z<|AF z z z<|AF z z z<|AF z z z<|AF z z z<|By hC4 zero37 z z fun b1 w3 hC5 hB2 hN1=>Ae z z<|Ae z z<|AO (cs':=[v5,v6]) (new:=[v5,v6]) hC5 0 z z (fac (Bz (hC5.ro 1 z))<|fac (Bz (hC5.ro 2 z))<|fa0) z A4 z z fun w4 hC6 hKp1=>?_
 try dsimp only [List.set] at hC6
 have hk1:=AY (((Ap hB1).then hq2.keep.below).then hB2) (Bg ((Ap hB1).then hq2.keep.below).size hN1) hKp1
 have hk2:=AY ((Ap hq2.keep.below).then hB2) (Bg (Ap hq2.keep.below).size hN1) hKp1
 have hk3:=AY (Ap hB2) hN1 hKp1
 refine Ae z z<|Ac<|Ad<|Ag z z<|Ag z z<|A9 [v5,v6] hC6 0 z z z AT A4 z z<|Ag z z<|be hF fun x3 hr3 hF=>A7 Tryz.call21 z z (c_M_FindPrivateOrder x2.1 v1 ((hC6.ro 3 z).now (Aq _ _)) x2.2.1 v2 ((hC6.ro 4 z).now (Aq _ _)) (x2.2.2.1.1,x2.2.2.1.2) v5 ((hC6.ro 1 z).now (Aq _ _)) v6 ((hC6.ro 2 z).now (Aq _ _)) x2.2.2.2 v4 ((hC6.ro 5 z).now (Aq _ _)) x3 hr3)<|?_
 rintro _ w5 ⟨hB3,v7,v8,F1,F2,rfl,hv2,hv3,hn2,hb2⟩
 obtain ⟨rfl,rfl⟩:=val_bool hv3
 have hC7:=hC6.pushL hB3 (Bs:=[Ab v7 x3.1]) (Fs:=[F1]) ⟨F1,_,z,hv2,z⟩ (by simpa using hn2) (fun b h=>hb2 b (by simpa using h))
 refine Ag z z<|AF z z z<|AF z z z<|Ae z z<|Ae z z<|Ac<|Ad<|Ag z z<|Ag z z<|A9 [v5,v6] hC7 1 z z z AT A4 z z<|Ag z z<|be hF fun x4 hr4 hF=>A7 Tryz.call20 z z (c_S_FindPrivateOrder x2.1 v1 ((hC7.ro 4 z).now (Aq _ _)) x2.2.1 v2 ((hC7.ro 5 z).now (Aq _ _)) (x2.2.2.1.1,x2.2.2.1.2) v5 ((hC7.ro 2 z).now (Aq _ _)) v6 ((hC7.ro 3 z).now (Aq _ _)) x2.2.2.2 v4 ((hC7.ro 6 z).now (Aq _ _)) x4 hr4)<|?_
 rintro _ w6 ⟨hB4,v9,v10,F3,F4,rfl,hv4,hv5,hn3,hb3⟩
 obtain ⟨rfl,rfl⟩:=val_bool hv5
 have hC8:=hC7.pushL hB4 (Bs:=[Ab v9 x4.1]) (Fs:=[F3]) ⟨F3,_,z,hv4,z⟩ (by simpa using hn3) (fun b h=>hb3 b (by simpa using h))
 refine Ag z z<|AF z z z<|AF z z z<|Ae z z<|Ae z z<|Ac<|A6<|be hF fun r1 hr5 hF=>BA (fun l w=>∃x5:Bool,x5=r1∧l=[(0,u1),(3,v1),(4,v2),(5,(ptr b1 0)),(6,v4),(8,(.bool x3.2)),(77,(.bool x5))]∧Below w6.heap.size w6 w∧Ctx [] w0 w [Af b1 [v5,v6],Ab v5 (x2.2.2.1.1:(List Int)),Ab v6 (x2.2.2.1.2:(List (Int × (List Int)))),Ab v1 (x2.1:(List Int)),Ab v2 (x2.2.1:(List (Int × (List Int) × Int × Int × Int))),Ab v4 (x2.2.2.2:(List Int))]) ?_ ?_
 ·refine Bb<|Ag z z<|Ag z z<|Cy BP z z z<|Ag z z<|Br (fun hc2=>?_) (fun hc2=>?_)
  ·replace hr5:=AC hr5 hc2
   refine gs z z z z<|gs z z z z<|gs z z z z<|gs z z z z<|AV z z z<|Ag z z<|gs z z z z<|gs z z z z<|gs z z z z<|gs z z z z<|gs z z z z<|gs z z z z<|gs z z z z<|gs z z z z<|gs z z z z<|gs z z z z<|AV z z z<|Ac<|?_
   obtain rfl:=Aa hr5
   have hC10:=hC8.f7
   have hC11:=hC10.f7
   have hC12:=hC11.f7
   have hC13:=hC12.f7
   have hC14:=hC13.f7
   have hC15:=hC14.f7
   have hC16:=hC15.h6
   exact Ak (l':=[(0,u1),(3,v1),(4,v2),(5,(ptr b1 0)),(6,v4),(8,(.bool x3.2)),(77,(.bool true))]) ⟨z,z,z,z,z,z,z,Ai⟩<|⟨true,z,z,(Al _ _),hC16⟩
  replace hr5:=AD hr5 hc2
  refine Aj z z<|Ag z z<|Aj z z<|Ag z z<|be hr5 fun x6 hr6 hr5=>Aj z z<|cb Tryz.call32 z z (c_S_SameSteps x3.1 v7 ((hC8.ro 1 z).now (Aq _ _)) x4.1 v9 ((hC8.ro 0 z).now (Aq _ _)) x6 hr6) fun w9 hB6=>have hC17:=hC8.grow hB6;Aj z z<|Bx z z<|AS z z z<|Ag z z<|Br (fun hc3=>?_) (fun hc3=>?_)
  ·replace hr5:=AC hr5 hc3
   refine gs z z z z<|gs z z z z<|gs z z z z<|gs z z z z<|gs z z z z<|gs z z z z<|gs z z z z<|gs z z z z<|gs z z z z<|gs z z z z<|AV z z z<|Ac<|?_
   obtain rfl:=Aa hr5
   have hC18:=hC17.f7
   have hC19:=hC18.f7
   have hC20:=hC19.f7
   have hC21:=hC20.f7
   have hC22:=hC21.f7
   have hC23:=hC22.f7
   have hC24:=hC23.h6
   exact Ak (l':=[(0,u1),(3,v1),(4,v2),(5,(ptr b1 0)),(6,v4),(8,(.bool x3.2)),(77,(.bool true))]) ⟨z,z,z,z,z,z,z,Ai⟩<|⟨true,z,z,(Ap hB6).below,hC24⟩
  replace hr5:=AD hr5 hc3
  refine Aj z z<|Ag z z<|Aj z z<|Ag z z<|Br (fun hc4=>?_) (fun hc4=>?_)
  ·replace hr5:=AC hr5 hc4
   refine Aj z z<|Ag z z<|Aj z z<|Ag z z<|Aj z z<|A9 [v5,v6] hC17 2 z z z AT A4 z z<|Aj z z<|Ag z z<|Aj z z<|Ag z z<|be hr5 fun x7 hr7 hr5=>Aj z z<|cb Tryz.call15 z z (c_M_IsPrivateOrder x2.1 v1 ((hC17.ro 5 z).now (Aq _ _)) x2.2.1 v2 ((hC17.ro 6 z).now (Aq _ _)) (x2.2.2.1.1,x2.2.2.1.2) v5 ((hC17.ro 3 z).now (Aq _ _)) v6 ((hC17.ro 4 z).now (Aq _ _)) x4.1 v9 ((hC17.ro 0 z).now (Aq _ _)) x2.2.2.2 v4 ((hC17.ro 7 z).now (Aq _ _)) x7 hr7) fun w10 hB7=>have hC25:=hC17.grow hB7;Aj z z<|Bx z z<|Aj z z<|AV z z z<|AS z z z<|Ac<|?_
   obtain rfl:=Aa hr5
   have hC26:=hC25.f7
   have hC27:=hC26.f7
   have hC28:=hC27.f7
   have hC29:=hC28.f7
   have hC30:=hC29.f7
   have hC31:=hC30.f7
   have hC32:=hC31.h6
   exact Ak (l':=[(0,u1),(3,v1),(4,v2),(5,(ptr b1 0)),(6,v4),(8,(.bool x3.2)),(77,(.bool (!x7)))]) ⟨z,z,z,z,z,z,z,Ai⟩<|⟨(!x7),z,z,((Ap hB6).then hB7).below,hC32⟩
  replace hr5:=AD hr5 hc4
  refine gs z z z z<|gs z z z z<|gs z z z z<|gs z z z z<|gs z z z z<|gs z z z z<|gs z z z z<|Aj z z<|AS z z z<|AS z z z<|Ac<|?_
  obtain rfl:=Aa hr5
  have hC33:=hC17.f7
  have hC34:=hC33.f7
  have hC35:=hC34.f7
  have hC36:=hC35.f7
  have hC37:=hC36.f7
  have hC38:=hC37.f7
  have hC39:=hC38.h6
  exact Ak (l':=[(0,u1),(3,v1),(4,v2),(5,(ptr b1 0)),(6,v4),(8,(.bool x3.2)),(77,(.bool false))]) ⟨z,z,z,z,z,z,z,Ai⟩<|⟨false,z,z,(Ap hB6).below,hC39⟩
 rintro _ w7 ⟨x5,rfl,rfl,hB5,hC9⟩
 try dsimp only at hF
 refine AI z (fun hc5=>?_) (fun hc5=>?_)
 ·replace hF:=AC hF hc5
  refine Ad<|Ae z z<|Ac<|AP<|Az<|?_
  obtain rfl:=Aa hF
  exact A8 z z<|⟨_,z,AR hC9 _⟩
 replace hF:=AD hF hc5
 refine AJ<|Am<|Ad<|Ag z z<|Ag z z<|A9 [v5,v6] hC9 0 z z z AT A4 z z<|Ag z z<|be hF fun x8 hr8 hF=>A7 Tryz.call28 z z (c_M_LeastDisclosure x2.1 v1 ((hC9.ro 3 z).now (Aq _ _)) x2.2.1 v2 ((hC9.ro 4 z).now (Aq _ _)) (x2.2.2.1.1,x2.2.2.1.2) v5 ((hC9.ro 1 z).now (Aq _ _)) v6 ((hC9.ro 2 z).now (Aq _ _)) x2.2.2.2 v4 ((hC9.ro 5 z).now (Aq _ _)) x8 hr8)<|?_
 rintro _ w11 ⟨hB8,v11,v12,F5,F6,rfl,hv8,hv9,hn4,hb4⟩
 obtain ⟨rfl,rfl⟩:=val_bool hv9
 have hC40:=hC9.pushL hB8 (Bs:=[Ab v11 x8.1]) (Fs:=[F5]) ⟨F5,_,z,hv8,z⟩ (by simpa using hn4) (fun b h=>hb4 b (by simpa using h))
 refine Ag z z<|AF z z z<|AF z z z<|Ae z z<|Ae z z<|Ac<|Ad<|Ag z z<|Ag z z<|A9 [v5,v6] hC40 1 z z z AT A4 z z<|Ag z z<|be hF fun x9 hr9 hF=>A7 Tryz.call27 z z (c_S_LeastDisclosure x2.1 v1 ((hC40.ro 4 z).now (Aq _ _)) x2.2.1 v2 ((hC40.ro 5 z).now (Aq _ _)) (x2.2.2.1.1,x2.2.2.1.2) v5 ((hC40.ro 2 z).now (Aq _ _)) v6 ((hC40.ro 3 z).now (Aq _ _)) x2.2.2.2 v4 ((hC40.ro 6 z).now (Aq _ _)) x9 hr9)<|?_
 rintro _ w12 ⟨hB9,v13,v14,F7,F8,rfl,hv10,hv11,hn5,hb5⟩
 obtain ⟨rfl,rfl⟩:=val_bool hv11
 have hC41:=hC40.pushL hB9 (Bs:=[Ab v13 x9.1]) (Fs:=[F7]) ⟨F7,_,z,hv10,z⟩ (by simpa using hn5) (fun b h=>hb5 b (by simpa using h))
 refine Ag z z<|AF z z z<|AF z z z<|Ae z z<|Ae z z<|Ac<|Ad<|Ag z z<|Ag z z<|A9 [v5,v6] hC41 2 z z z AT A4 z z<|be hF fun x10 hr10 hF=>A7 Tryz.call33 z z (c_S_FindOrder x2.1 v1 ((hC41.ro 5 z).now (Aq _ _)) x2.2.1 v2 ((hC41.ro 6 z).now (Aq _ _)) (x2.2.2.1.1,x2.2.2.1.2) v5 ((hC41.ro 3 z).now (Aq _ _)) v6 ((hC41.ro 4 z).now (Aq _ _)) x10 hr10)<|?_
 rintro _ w13 ⟨hB10,v15,v16,F9,F10,rfl,hv12,hv13,hn6,hb6⟩
 obtain ⟨rfl,rfl⟩:=val_bool hv13
 have hC42:=hC41.pushL hB10 (Bs:=[Ab v15 x10.1]) (Fs:=[F9]) ⟨F9,_,z,hv12,z⟩ (by simpa using hn6) (fun b h=>hb6 b (by simpa using h))
 refine Ag z z<|AF z z z<|AF z z z<|Ae z z<|Ae z z<|Ac<|A6<|be hF fun r2 hr11 hF=>BA (fun l w=>∃x11:Bool,x11=r2∧l=[(0,u1),(3,v1),(4,v2),(5,(ptr b1 0)),(6,v4),(12,(.bool x8.2)),(13,v13),(124,(.bool x11))]∧Below w13.heap.size w13 w∧Ctx [] w0 w [Ab v13 (x9.1:(List Int)),Af b1 [v5,v6],Ab v5 (x2.2.2.1.1:(List Int)),Ab v6 (x2.2.2.1.2:(List (Int × (List Int)))),Ab v1 (x2.1:(List Int)),Ab v2 (x2.2.1:(List (Int × (List Int) × Int × Int × Int))),Ab v4 (x2.2.2.2:(List Int))]) ?_ ?_
 ·refine Bb<|Ag z z<|Ag z z<|Cy BP z z z<|Ag z z<|Br (fun hc6=>?_) (fun hc6=>?_)
  ·replace hr11:=AC hr11 hc6
   refine gs z z z z<|gs z z z z<|gs z z z z<|gs z z z z<|AV z z z<|Ag z z<|gs z z z z<|gs z z z z<|gs z z z z<|AV z z z<|Ag z z<|gs z z z z<|gs z z z z<|gs z z z z<|gs z z z z<|gs z z z z<|gs z z z z<|gs z z z z<|gs z z z z<|AV z z z<|Ac<|?_
   obtain rfl:=Aa hr11
   have hC44:=hC42.f8
   have hC45:=hC44.f8
   have hC46:=hC45.f8
   have hC47:=hC46.f8
   have hC48:=hC47.f8
   have hC49:=hC48.f8
   have hC50:=hC49.f7
   have hC51:=hC50.h7
   exact Ak (l':=[(0,u1),(3,v1),(4,v2),(5,(ptr b1 0)),(6,v4),(12,(.bool x8.2)),(13,v13),(124,(.bool true))]) ⟨z,z,z,z,z,z,z,z,Ai⟩<|⟨true,z,z,(Al _ _),hC51⟩
  replace hr11:=AD hr11 hc6
  refine Aj z z<|Ag z z<|Aj z z<|Ag z z<|be hr11 fun x12 hr12 hr11=>Aj z z<|cb Tryz.call34 z z (c_Q_sameInts x8.1 v11 ((hC42.ro 2 z).now (Aq _ _)) x9.1 v13 ((hC42.ro 1 z).now (Aq _ _)) x12 hr12) fun w15 hB12=>have hC52:=hC42.grow hB12;Aj z z<|Bx z z<|AS z z z<|Ag z z<|Br (fun hc7=>?_) (fun hc7=>?_)
  ·replace hr11:=AC hr11 hc7
   refine gs z z z z<|gs z z z z<|gs z z z z<|AV z z z<|Ag z z<|gs z z z z<|gs z z z z<|gs z z z z<|gs z z z z<|gs z z z z<|gs z z z z<|gs z z z z<|gs z z z z<|AV z z z<|Ac<|?_
   obtain rfl:=Aa hr11
   have hC53:=hC52.f8
   have hC54:=hC53.f8
   have hC55:=hC54.f8
   have hC56:=hC55.f8
   have hC57:=hC56.f8
   have hC58:=hC57.f8
   have hC59:=hC58.f7
   have hC60:=hC59.h7
   exact Ak (l':=[(0,u1),(3,v1),(4,v2),(5,(ptr b1 0)),(6,v4),(12,(.bool x8.2)),(13,v13),(124,(.bool true))]) ⟨z,z,z,z,z,z,z,z,Ai⟩<|⟨true,z,z,(Ap hB12).below,hC60⟩
  replace hr11:=AD hr11 hc7
  refine Aj z z<|Ag z z<|Aj z z<|Ag z z<|Aj z z<|Cy BP z z z<|AS z z z<|Ag z z<|Br (fun hc8=>?_) (fun hc8=>?_)
  ·replace hr11:=AC hr11 hc8
   refine gs z z z z<|gs z z z z<|gs z z z z<|gs z z z z<|gs z z z z<|gs z z z z<|gs z z z z<|gs z z z z<|AV z z z<|Ac<|?_
   obtain rfl:=Aa hr11
   have hC61:=hC52.f8
   have hC62:=hC61.f8
   have hC63:=hC62.f8
   have hC64:=hC63.f8
   have hC65:=hC64.f8
   have hC66:=hC65.f8
   have hC67:=hC66.f7
   have hC68:=hC67.h7
   exact Ak (l':=[(0,u1),(3,v1),(4,v2),(5,(ptr b1 0)),(6,v4),(12,(.bool x8.2)),(13,v13),(124,(.bool true))]) ⟨z,z,z,z,z,z,z,z,Ai⟩<|⟨true,z,z,(Ap hB12).below,hC68⟩
  replace hr11:=AD hr11 hc8
  refine Aj z z<|Ag z z<|Aj z z<|Ag z z<|Aj z z<|Ag z z<|Br (fun hc9=>?_) (fun hc9=>?_)
  ·replace hr11:=AC hr11 hc9
   refine Aj z z<|Ag z z<|Aj z z<|AZ Ah (hC52.ro 1 z) z z<|Aj z z<|BT z z z<|Aj z z<|AV z z z<|Aj z z<|Cy BP z z z<|AS z z z<|Ac<|?_
   obtain rfl:=Aa hr11
   have hC69:=hC52.f8
   have hC70:=hC69.f8
   have hC71:=hC70.f8
   have hC72:=hC71.f8
   have hC73:=hC72.f8
   have hC74:=hC73.f8
   have hC75:=hC74.f7
   have hC76:=hC75.h7
   exact Ak (l':=[(0,u1),(3,v1),(4,v2),(5,(ptr b1 0)),(6,v4),(12,(.bool x8.2)),(13,v13),(124,(.bool (!decide (x3.2=(decide ((List.length x9.1:Int)=0))))))]) ⟨z,z,z,z,z,z,z,z,Ai⟩<|⟨(!decide (x3.2=(decide ((List.length x9.1:Int)=0)))),z,z,(Ap hB12).below,hC76⟩
  replace hr11:=AD hr11 hc9
  refine gs z z z z<|gs z z z z<|gs z z z z<|Aj z z<|AS z z z<|Aj z z<|Cy BP z z z<|AS z z z<|Ac<|?_
  obtain rfl:=Aa hr11
  have hC77:=hC52.f8
  have hC78:=hC77.f8
  have hC79:=hC78.f8
  have hC80:=hC79.f8
  have hC81:=hC80.f8
  have hC82:=hC81.f8
  have hC83:=hC82.f7
  have hC84:=hC83.h7
  exact Ak (l':=[(0,u1),(3,v1),(4,v2),(5,(ptr b1 0)),(6,v4),(12,(.bool x8.2)),(13,v13),(124,(.bool (!decide (x3.2=false))))]) ⟨z,z,z,z,z,z,z,z,Ai⟩<|⟨(!decide (x3.2=false)),z,z,(Ap hB12).below,hC84⟩
 rintro _ w14 ⟨x11,rfl,rfl,hB11,hC43⟩
 try dsimp only at hF
 refine AI z (fun hc10=>?_) (fun hc10=>?_)
 ·replace hF:=AC hF hc10
  refine Ad<|Ae z z<|Ac<|AP<|Az<|?_
  obtain rfl:=Aa hF
  exact A8 z z<|⟨_,z,AR hC43 _⟩
 replace hF:=AD hF hc10
 refine AJ<|Am<|A6<|Ad<|Ae z z<|Ac<|be hF fun r3 hr13 hF=>Bd (fun l w=>.inl ()=r3∧l=[(0,u1)]∧Ctx [] w0 w []) ?_ ?_
 ·refine AH<|wS (l':=[(0,u1),(3,v1),(4,v2),(5,(ptr b1 0)),(6,v4),(12,(.bool x8.2)),(13,v13),(17,(I (-1)))]) ⟨z,z,z,z,z,z,z,z,Ai⟩<|Bu (fun k l w=>∃x13:Int,l=[(0,u1),(3,v1),(4,v2),(5,(ptr b1 0)),(6,v4),(12,(.bool x8.2)),(13,v13),(17,(I x13))]∧Ctx [] w0 w [Ab v13 (x9.1:(List Int)),Af b1 [v5,v6],Ab v5 (x2.2.2.1.1:(List Int)),Ab v6 (x2.2.2.1.2:(List (Int × (List Int)))),Ab v1 (x2.1:(List Int)),Ab v2 (x2.2.1:(List (Int × (List Int) × Int × Int × Int))),Ab v4 (x2.2.2.2:(List Int))]∧Q.FnPrivacies_l1 x9 x8 x2 k x13=some r3) FUEL ⟨(-1),z,hC43,hr13⟩<|?_
  clear hr13
  rintro k1 _ w16 ⟨x13,rfl,hC85,hL1⟩
  cases k1 with
  | zero=>rw [Q.FnPrivacies_l1] at hL1; cases hL1
  | succ k1 =>
   rw [Q.FnPrivacies_l1] at hL1
   refine A6<|be hL1 fun r4 hr14 hL1=>BA (fun l w=>∃x14:Bool,x14=r4∧l=[(0,u1),(3,v1),(4,v2),(5,(ptr b1 0)),(6,v4),(12,(.bool x8.2)),(13,v13),(17,(I x13)),(131,(.bool x14))]∧Below w16.heap.size w16 w∧Ctx [] w0 w [Ab v13 (x9.1:(List Int)),Af b1 [v5,v6],Ab v5 (x2.2.2.1.1:(List Int)),Ab v6 (x2.2.2.1.2:(List (Int × (List Int)))),Ab v1 (x2.1:(List Int)),Ab v2 (x2.2.1:(List (Int × (List Int) × Int × Int × Int))),Ab v4 (x2.2.2.2:(List Int))]) ?_ ?_
   ·refine Bb<|Ag z z<|Ag z z<|AZ Ah (hC85.ro 0 z) z z<|Bo z z z<|Ag z z<|Br (fun hc11=>?_) (fun hc11=>?_)
    ·replace hr14:=AC hr14 hc11
     refine Aj z z<|Ag z z<|AV z z z<|Ac<|?_
     obtain rfl:=Aa hr14
     exact Ak (l':=[(0,u1),(3,v1),(4,v2),(5,(ptr b1 0)),(6,v4),(12,(.bool x8.2)),(13,v13),(17,(I x13)),(131,(.bool x8.2))]) ⟨z,z,z,z,z,z,z,z,z,Ai⟩<|⟨x8.2,z,z,(Al _ _),hC85⟩
    replace hr14:=AD hr14 hc11
    refine gs z z z z<|AS z z z<|Ac<|?_
    obtain rfl:=Aa hr14
    exact Ak (l':=[(0,u1),(3,v1),(4,v2),(5,(ptr b1 0)),(6,v4),(12,(.bool x8.2)),(13,v13),(17,(I x13)),(131,(.bool false))]) ⟨z,z,z,z,z,z,z,z,z,Ai⟩<|⟨false,z,z,(Al _ _),hC85⟩
   rintro _ w17 ⟨x14,rfl,rfl,hB14,hC86⟩
   try dsimp only at hL1
   refine AI z (fun hc12=>?_) (fun hc12=>?_)
   ·replace hL1:=AC hL1 hc12
    refine AJ<|Am<|A6<|AH<|Ad<|A2 (vs:=[]) hC86 Ah ty3 z z z z (by simp) z z fun b2 w18 hC87 hB15=>?_
    have hC88:=hC87.row0 (α:=Int)
    have hC89:=hC88.front 1 z
    dsimp only [List.eraseIdx,List.cons_append,List.nil_append,List.append_nil] at hC89
    have hC90:Ctx [] w0 w18 (Ab (.slice (some ⟨b2,0,none⟩) 0 0) (([]:List Int):List Int)::[Ab v13 (x9.1:(List Int)),Af b1 [v5,v6],Ab v5 (x2.2.2.1.1:(List Int)),Ab v6 (x2.2.2.1.2:(List (Int × (List Int)))),Ab v1 (x2.1:(List Int)),Ab v2 (x2.2.1:(List (Int × (List Int) × Int × Int × Int))),Ab v4 (x2.2.2.2:(List Int))]):=hC89.rowOwn (by simp [maxLen])
    refine Ae z z<|Ac<|A6<|Ad<|Ae z z<|Ac<|be hL1 fun r5 hr15 hL1=>Bd (fun l w=>∃v18:Value,∃x17:(List Int),x17=r5∧l=[(0,u1),(3,v1),(4,v2),(5,(ptr b1 0)),(6,v4),(12,(.bool x8.2)),(13,v13),(17,(I x13)),(18,v18)]∧Ctx [] w0 w [Ab v18 (x17:(List Int)),Ab v13 (x9.1:(List Int)),Af b1 [v5,v6],Ab v5 (x2.2.2.1.1:(List Int)),Ab v6 (x2.2.2.1.2:(List (Int × (List Int)))),Ab v1 (x2.1:(List Int)),Ab v2 (x2.2.1:(List (Int × (List Int) × Int × Int × Int))),Ab v4 (x2.2.2.2:(List Int))]) ?_ ?_
    ·refine AH<|wS (l':=[(0,u1),(3,v1),(4,v2),(5,(ptr b1 0)),(6,v4),(12,(.bool x8.2)),(13,v13),(17,(I x13)),(18,(.slice (some ⟨b2,0,none⟩) 0 0)),(19,(I 0))]) ⟨z,z,z,z,z,z,z,z,z,z,Ai⟩<|Bu (fun k l w=>∃v17:Value,∃x15:(List Int),∃x16:Int,l=[(0,u1),(3,v1),(4,v2),(5,(ptr b1 0)),(6,v4),(12,(.bool x8.2)),(13,v13),(17,(I x13)),(18,v17),(19,(I x16))]∧Ctx [] w0 w [Ab v17 (x15:(List Int)),Ab v13 (x9.1:(List Int)),Af b1 [v5,v6],Ab v5 (x2.2.2.1.1:(List Int)),Ab v6 (x2.2.2.1.2:(List (Int × (List Int)))),Ab v1 (x2.1:(List Int)),Ab v2 (x2.2.1:(List (Int × (List Int) × Int × Int × Int))),Ab v4 (x2.2.2.2:(List Int))]∧Q.FnPrivacies_l2 x2 x9 x13 k x15 x16=some r5) FUEL ⟨(.slice (some ⟨b2,0,none⟩) 0 0),([]:List Int),0,z,hC90,hr15⟩<|?_
     clear hr15
     rintro k2 _ w19 ⟨v17,x15,x16,rfl,hC91,hL2⟩
     cases k2 with
     | zero=>rw [Q.FnPrivacies_l2] at hL2; cases hL2
     | succ k2 =>
      rw [Q.FnPrivacies_l2] at hL2
      refine A6<|Ad<|Ag z z<|Ag z z<|AZ Ah (hC91.ro 7 z) z z<|Bo z z z<|Ac<|AI z (fun hc13=>?_) (fun hc13=>?_)
      ·replace hL2:=AC hL2 hc13
       refine AJ<|Am<|A6<|AH<|be hL2 fun r6 hr16 hL2=>BA (fun l w=>∃x18:Bool,x18=r6∧l=[(0,u1),(3,v1),(4,v2),(5,(ptr b1 0)),(6,v4),(12,(.bool x8.2)),(13,v13),(17,(I x13)),(18,v17),(19,(I x16)),(162,(.bool x18))]∧Below w19.heap.size w19 w∧Ctx [] w0 w [Ab v17 (x15:(List Int)),Ab v13 (x9.1:(List Int)),Af b1 [v5,v6],Ab v5 (x2.2.2.1.1:(List Int)),Ab v6 (x2.2.2.1.2:(List (Int × (List Int)))),Ab v1 (x2.1:(List Int)),Ab v2 (x2.2.1:(List (Int × (List Int) × Int × Int × Int))),Ab v4 (x2.2.2.2:(List Int))]) ?_ ?_
       ·refine B1 22 z hmix fun w21 hB18=>have hC93:=hC91.grow hB18;tm 0 z z z<|tm 1 z z z<|tm 2 z z z<|be hr16 fun x19 hx1 hr16=>tk 3 z z (B4 Ah ty3 (hC93.ro 7 z) hx1 z z)<|AG Ah ty3 (hC93.ro 7 z) hx1 z z z fun b3 o1 h1=>Ac<|oe 4 z<|A3 ty3 h1 (Aq _ _) z z fun v19 h2=>?_
        obtain rfl:=Bn h2
        refine Ac<|be hr16 fun x20 hr17 hr16=>oe 5 z<|cb Tryz.call35 z z (c_Q_has x9.1 v13 ((hC93.ro 1 z).now (Aq _ _)) x19 x20 hr17) fun w22 hB19=>have hC94:=hC93.grow hB19;Ac<|tk 6 z z (Cm z)<|Bx z z<|Ac<|tm 7 z z z<|BQ (fun hc14=>?_) (fun hc14=>?_)
        ·replace hr16:=AC hr16 hc14
         refine sk 8 z z z z z<|sk 9 z z z z z<|sk 10 z z z z z<|sk 11 z z z z z<|sk 12 z z z z z<|sk 13 z z z z z<|sk 14 z z z z z<|sk 15 z z z z z<|sk 16 z z z z z<|sk 17 z z z z z<|sk 18 z z z z z<|sk 19 z z z z z<|sk 20 z z z z z<|tp 21 z z z z<|dn<|?_
         obtain rfl:=Aa hr16
         exact Ak (l':=[(0,u1),(3,v1),(4,v2),(5,(ptr b1 0)),(6,v4),(12,(.bool x8.2)),(13,v13),(17,(I x13)),(18,v17),(19,(I x16)),(162,(.bool true))]) ⟨z,z,z,z,z,z,z,z,z,z,z,Ai⟩<|⟨true,z,z,((Ap hB18).then hB19).below,hC94⟩
        replace hr16:=AD hr16 hc14
        refine tn 8 z z z z z<|tg 9 z z z z (fl_geq z z)<|Aj z z<|Cq z z z<|Ac<|tn 10 z z z z z<|BQ (fun hc15=>?_) (fun hc15=>?_)
        ·replace hr16:=AC hr16 hc15
         refine tn 11 z z z z z<|tn 12 z z z z z<|be hr16 fun x21 hx2 hr16=>tg 13 z z z z (B4 Ah ty3 (hC94.ro 1 z) hx2 z z)<|Aj z z<|AG Ah ty3 (hC94.ro 1 z) hx2 z z z fun b4 o2 h3=>Ac<|tn 15 z z z z z<|tn 16 z z z z z<|be hr16 fun x22 hx3 hr16=>tg 17 z z z z (B4 Ah ty3 (hC94.ro 7 z) hx3 z z)<|Aj z z<|AG Ah ty3 (hC94.ro 7 z) hx3 z z z fun b5 o3 h4=>Ac<|wAS (l':=[(0,u1),(3,v1),(4,v2),(5,(ptr b1 0)),(6,v4),(12,(.bool x8.2)),(13,v13),(17,(I x13)),(18,v17),(19,(I x16)),(135,(I x16)),(136,v4),(137,(I (List.length x2.2.2.2:Int))),(138,(.bool (decide (x16 < (List.length x2.2.2.2:Int))))),(141,v13),(142,v4),(143,(I x16)),(144,(ptr b3 o1)),(145,(I x19)),(146,(.bool x20)),(147,(.bool (!x20))),(148,(.bool false)),(149,(I x13)),(150,(.bool (decide (0 ≤ x13)))),(151,(.bool true)),(152,v13),(153,(I x13)),(154,(ptr b4 o2)),(156,v4),(157,(I x16)),(158,(ptr b5 o3))]) ⟨z,z,z,z,z,z,z,z,z,z,z,z,z,z,z,z,z,z,z,z,z,z,z,z,z,z,z,z,z,z,z,Ai⟩<|Bw [⟨14,[],fun vs=>Bh (I x21),[]⟩,⟨18,[],fun vs=>Bh (I x22),[]⟩] [[],[]] 3 z (by kernel_rfl) (by kernel_rfl) z ?_ ?_
         ·refine An z ?_ ?_
          ·intro w23 hB20
           refine Ar<|⟨_,z,?_⟩
           refine Aj z z<|A3 ty3 h3 (Ap hB20) z z fun v20 h5=>?_
           obtain rfl:=Bn h5
           exact Ac<|Ay (Al _ _) z z ⟨z,z⟩
          refine An z ?_ ?_
          ·intro w23 hB20
           refine Ar<|⟨_,z,?_⟩
           refine Aj z z<|A3 ty3 h4 (Ap hB20) z z fun v21 h6=>?_
           obtain rfl:=Bn h6
           exact Ac<|Ay (Al _ _) z z ⟨z,z⟩
          exact Bp
         intro w24 hB21
         refine At z z z ?_
         rintro _ _ ⟨rfl,rfl⟩
         refine At z z z ?_
         rintro _ _ ⟨rfl,rfl⟩
         refine B0 fun hn7 hb7=>have hC95:=hC94.grow hB21;tg 19 z z z z (fl_eql z z)<|Aj z z<|BT z z z<|Ac<|tg 20 z z z z (fl_pick_t z z)<|Aj z z<|AV z z z<|Ac<|tq 21 z z z z<|dn<|?_
         obtain rfl:=Aa hr16
         exact Ak (l':=[(0,u1),(3,v1),(4,v2),(5,(ptr b1 0)),(6,v4),(12,(.bool x8.2)),(13,v13),(17,(I x13)),(18,v17),(19,(I x16)),(162,(.bool (decide (x21=x22))))]) ⟨z,z,z,z,z,z,z,z,z,z,z,Ai⟩<|⟨(decide (x21=x22)),z,z,(((Ap hB18).then hB19).then hB21).below,hC95⟩
        replace hr16:=AD hr16 hc15
        refine sk 11 z z z z z<|sk 12 z z z z z<|sk 13 z z z z z<|sk 14 z z z z z<|sk 15 z z z z z<|sk 16 z z z z z<|sk 17 z z z z z<|sk 18 z z z z z<|sk 19 z z z z z<|tg 20 z z z z (fl_pick_f z z)<|Aj z z<|AS z z z<|Ac<|tq 21 z z z z<|dn<|?_
        obtain rfl:=Aa hr16
        exact Ak (l':=[(0,u1),(3,v1),(4,v2),(5,(ptr b1 0)),(6,v4),(12,(.bool x8.2)),(13,v13),(17,(I x13)),(18,v17),(19,(I x16)),(162,(.bool false))]) ⟨z,z,z,z,z,z,z,z,z,z,z,Ai⟩<|⟨false,z,z,((Ap hB18).then hB19).below,hC94⟩
       rintro _ w20 ⟨x18,rfl,rfl,hB17,hC92⟩
       try dsimp only at hL2
       refine be hL2 fun r7 hr18 hL2=>Bd (fun l w=>∃v22:Value,∃x23:(List Int),x23=r7∧l=[(0,u1),(3,v1),(4,v2),(5,(ptr b1 0)),(6,v4),(12,(.bool x8.2)),(13,v13),(17,(I x13)),(18,v22),(19,(I x16))]∧Ctx [] w0 w [Ab v22 (x23:(List Int)),Ab v13 (x9.1:(List Int)),Af b1 [v5,v6],Ab v5 (x2.2.2.1.1:(List Int)),Ab v6 (x2.2.2.1.2:(List (Int × (List Int)))),Ab v1 (x2.1:(List Int)),Ab v2 (x2.2.1:(List (Int × (List Int) × Int × Int × Int))),Ab v4 (x2.2.2.2:(List Int))]) ?_ ?_
       ·refine AI z (fun hc16=>?_) (fun hc16=>?_)
        ·replace hr18:=AC hr18 hc16
         refine Bb<|Ag z z<|Ag z z<|Ag z z<|be hr18 fun x24 hx4 hr18=>AG Ah ty3 (hC92.ro 7 z) hx4 z z z fun b6 o4 h7=>A3 ty3 h7 (Aq _ _) z z fun v23 h8=>?_
         obtain rfl:=Bn h8
         refine A2 (vs:=[(I x24)]) hC92 Ah ty3 z z z z (fac z<|fa0) z z (fun b7 w26 hC97 hB23=>?_)
         have hC98:=hC97.row0 (α:=Int)
         have hC99:=hC98.triv (Bm (x24))
         have hC100:=hC99.row1
         have hC101:=hC100.front 1 z
         dsimp only [List.eraseIdx,List.cons_append,List.nil_append,List.append_nil] at hC101
         have hC102:Ctx [] w0 w26 (Ab (.slice (some ⟨b7,0,none⟩) 1 1) ([x24]:List Int)::[Ab v17 (x15:(List Int)),Ab v13 (x9.1:(List Int)),Af b1 [v5,v6],Ab v5 (x2.2.2.1.1:(List Int)),Ab v6 (x2.2.2.1.2:(List (Int × (List Int)))),Ab v1 (x2.1:(List Int)),Ab v2 (x2.2.1:(List (Int × (List Int) × Int × Int × Int))),Ab v4 (x2.2.2.2:(List Int))]):=hC101.rowOwn (by simp [maxLen])
         refine be hr18 fun x25 hx5 hr18=>Bi (α:=Int) hC102 1 z (hC102.ro 0 z) (Aq _ _) Ah ty3 z hx5 z z z fun v24 w27 hC103=>?_
         try dsimp only [List.set] at hC103
         refine Ae z z<|Ac<|?_
         obtain rfl:=Aa hr18
         have hC104:=hC103.f8
         have hC105:=hC104.f8
         have hC106:=hC105.f8
         have hC107:=hC106.f8
         have hC108:=hC107.f8
         have hC109:=hC108.f8
         have hC110:=hC109.f8
         have hC111:=hC110.f8
         have hC112:=hC111.h8
         exact Ak (l':=[(0,u1),(3,v1),(4,v2),(5,(ptr b1 0)),(6,v4),(12,(.bool x8.2)),(13,v13),(17,(I x13)),(18,v24),(19,(I x16))]) ⟨z,z,z,z,z,z,z,z,z,z,Ai⟩<|⟨v24,x25,z,z,hC112⟩
        replace hr18:=AD hr18 hc16
        refine AJ ?_
        obtain rfl:=Aa hr18
        exact Ak (l':=[(0,u1),(3,v1),(4,v2),(5,(ptr b1 0)),(6,v4),(12,(.bool x8.2)),(13,v13),(17,(I x13)),(18,v17),(19,(I x16))]) ⟨z,z,z,z,z,z,z,z,z,z,Ai⟩<|⟨v17,x15,z,z,hC92⟩
       rintro l7 _ w25 hs7 ⟨v22,x23,rfl,rfl,hC96⟩
       try dsimp only at hL2
       refine AM<|AL hs7<|?_
       clear hs7
       exact Bb<|Ag z z<|Bj z z z<|Ae z z<|Ac<|Ak (l':=[(0,u1),(3,v1),(4,v2),(5,(ptr b1 0)),(6,v4),(12,(.bool x8.2)),(13,v13),(17,(I x13)),(18,v22),(19,(I (w64 (x16+1))))]) ⟨z,z,z,z,z,z,z,z,z,z,Ai⟩<|⟨k2,Av _,v22,x23,w64 (x16+1),z,hC96,hL2⟩
      replace hL2:=AD hL2 hc13
      refine Bt (A1 (A1 (Be ?_)))
      obtain rfl:=Aa hL2
      exact Ak (l':=[(0,u1),(3,v1),(4,v2),(5,(ptr b1 0)),(6,v4),(12,(.bool x8.2)),(13,v13),(17,(I x13)),(18,v17)]) ⟨z,z,z,z,z,z,z,z,z,Ai⟩<|⟨v17,x15,z,z,hC91⟩
    rintro l8 _ w28 hs8 ⟨v18,x17,rfl,rfl,hC113⟩
    try dsimp only at hL1
    refine AL hs8 ?_
    clear hs8
    refine Ad<|Ag z z<|Ag z z<|A9 [v5,v6] hC113 2 z z z AT A4 z z<|Ag z z<|be hL1 fun x26 hr19 hL1=>A7 Tryz.call21 z z (c_M_FindPrivateOrder x2.1 v1 ((hC113.ro 5 z).now (Aq _ _)) x2.2.1 v2 ((hC113.ro 6 z).now (Aq _ _)) (x2.2.2.1.1,x2.2.2.1.2) v5 ((hC113.ro 3 z).now (Aq _ _)) v6 ((hC113.ro 4 z).now (Aq _ _)) x17 v18 ((hC113.ro 0 z).now (Aq _ _)) x26 hr19)<|?_
    rintro _ w29 ⟨hB25,v25,v26,F11,F12,rfl,hv16,hv17,hn8,hb8⟩
    obtain ⟨rfl,rfl⟩:=val_bool hv17
    have hC114:=hC113.pushL hB25 (Bs:=[Ab v25 x26.1]) (Fs:=[F11]) ⟨F11,_,z,hv16,z⟩ (by simpa using hn8) (fun b h=>hb8 b (by simpa using h))
    refine Ag z z<|AF z z z<|AF z z z<|Ae z z<|Ae z z<|Ac<|Ad<|Ag z z<|Ag z z<|Bo z z z<|Cy BP z z z<|Ac<|AI z (fun hc17=>?_) (fun hc17=>?_)
    ·replace hL1:=AC hL1 hc17
     refine Ad<|Ae z z<|Ac<|AP<|Bk<|Az<|Az<|Bk<|Az<|Az<|?_
     obtain rfl:=Aa hL1
     dsimp only at hF
     obtain rfl:=Aa hF
     exact A8 z z<|⟨_,z,AR hC114 _⟩
    replace hL1:=AD hL1 hc17
    exact AJ<|AM<|Am<|Bb<|Ag z z<|Bj z z z<|Ae z z<|Ac<|have hC115:=hC114.f8;have hC116:=hC115.f8;have hC117:=hC116.f8;have hC118:=hC117.f8;have hC119:=hC118.f8;have hC120:=hC119.f8;have hC121:=hC120.f8;have hC122:=hC121.h7;Ak (l':=[(0,u1),(3,v1),(4,v2),(5,(ptr b1 0)),(6,v4),(12,(.bool x8.2)),(13,v13),(17,(I (w64 (x13+1))))]) ⟨z,z,z,z,z,z,z,z,Ai⟩<|⟨k1,Av _,w64 (x13+1),z,hC122,hL1⟩
   replace hL1:=AD hL1 hc12
   refine Bt (A1 (A1 (Be ?_)))
   obtain rfl:=Aa hL1
   have hC123:=hC86.h0
   exact Ak (l':=[(0,u1)]) ⟨z,Ai⟩<|⟨z,z,hC123⟩
 rintro l9 _ w30 hs9 ⟨rfl,rfl,hC124⟩
 try dsimp only at hF
 refine AL hs9 ?_
 clear hs9
 refine Ad<|Ag z z<|be hF fun x27 hr20 hF=>A7 Tryz.call36 z z (c_S_DrawIsPrivateOrder a1 u1 (g1.now hC124.keep) x27 hr20)<|?_
 rintro _ w31 ⟨v27,v28,v29,v30,v31,rfl,hq25⟩
 have hC125:Ctx [] w0 w31 [Ab v27 (x27.1:(List Int)),Ab v28 (x27.2.1:(List (Int × (List Int) × Int × Int × Int))),Ab v29 (x27.2.2.1:((List Int) × (List (Int × (List Int))))),Ab v30 (x27.2.2.2.1:(List (Int × Int))),Ab v31 (x27.2.2.2.2:(List Int))]:=hC124.push2 hq25
 have hC126:=hC125.f2
 obtain ⟨v32,v33,rfl,hC127⟩:=st37_own hC126
 refine Ag z z<|AF z z z<|AF z z z<|AF z z z<|AF z z z<|AF z z z<|By hC127 zero37 z z fun b8 w32 hC128 hB27 hN2=>Ae z z<|Ae z z<|AO (cs':=[v32,v33]) (new:=[v32,v33]) hC128 0 z z (fac (Bz (hC128.ro 1 z))<|fac (Bz (hC128.ro 2 z))<|fa0) z A4 z z fun w33 hC129 hKp2=>?_
 try dsimp only [List.set] at hC129
 have hk4:=AY ((Ap hq25.keep.below).then hB27) (Bg (Ap hq25.keep.below).size hN2) hKp2
 have hk5:=AY (Ap hB27) hN2 hKp2
 refine Ae z z<|Ae z z<|Ac<|A6<|Ad<|Ag z z<|Ag z z<|A9 [v32,v33] hC129 0 z z z AT A4 z z<|Ag z z<|Ag z z<|be hF fun x28 hr21 hF=>cb Tryz.call15 z z (c_M_IsPrivateOrder x27.1 v27 ((hC129.ro 3 z).now (Aq _ _)) x27.2.1 v28 ((hC129.ro 4 z).now (Aq _ _)) (x27.2.2.1.1,x27.2.2.1.2) v32 ((hC129.ro 1 z).now (Aq _ _)) v33 ((hC129.ro 2 z).now (Aq _ _)) x27.2.2.2.1 v30 ((hC129.ro 5 z).now (Aq _ _)) x27.2.2.2.2 v31 ((hC129.ro 6 z).now (Aq _ _)) x28 hr21) fun w34 hB28=>have hC130:=hC129.grow hB28;Ac<|be hF fun r8 hr22 hF=>Bd (fun l w=>.inl ()=r8∧l=[(0,u1),(22,v27),(23,v28),(24,(ptr b8 0)),(25,v30),(26,v31)]∧Below w34.heap.size w34 w∧Ctx [] w0 w [Af b8 [v32,v33],Ab v32 (x27.2.2.1.1:(List Int)),Ab v33 (x27.2.2.1.2:(List (Int × (List Int)))),Ab v27 (x27.1:(List Int)),Ab v28 (x27.2.1:(List (Int × (List Int) × Int × Int × Int))),Ab v30 (x27.2.2.2.1:(List (Int × Int))),Ab v31 (x27.2.2.2.2:(List Int))]) ?_ ?_
 ·refine AI z (fun hc18=>?_) (fun hc18=>?_)
  ·replace hr22:=AC hr22 hc18
   refine Ad<|Ag z z<|Ag z z<|A9 [v32,v33] hC130 0 z z z AT A4 z z<|Ag z z<|be hr22 fun x29 hr23 hr22=>A7 Tryz.call21 z z (c_M_FindPrivateOrder x27.1 v27 ((hC130.ro 3 z).now (Aq _ _)) x27.2.1 v28 ((hC130.ro 4 z).now (Aq _ _)) (x27.2.2.1.1,x27.2.2.1.2) v32 ((hC130.ro 1 z).now (Aq _ _)) v33 ((hC130.ro 2 z).now (Aq _ _)) x27.2.2.2.2 v31 ((hC130.ro 6 z).now (Aq _ _)) x29 hr23)<|?_
   rintro _ w36 ⟨hB30,v34,v35,F13,F14,rfl,hv19,hv20,hn10,hb10⟩
   obtain ⟨rfl,rfl⟩:=val_bool hv20
   have hC132:=hC130.pushL hB30 (Bs:=[Ab v34 x29.1]) (Fs:=[F13]) ⟨F13,_,z,hv19,z⟩ (by simpa using hn10) (fun b h=>hb10 b (by simpa using h))
   refine Ag z z<|AF z z z<|AF z z z<|Ae z z<|Ae z z<|Ac<|Ad<|Ag z z<|Bx z z<|Ac<|AI z (fun hc19=>?_) (fun hc19=>?_)
   ·replace hr22:=AC hr22 hc19
    refine Ad<|Ae z z<|Ac<|AP<|Az<|Az<|?_
    obtain rfl:=Aa hr22
    dsimp only at hF
    obtain rfl:=Aa hF
    exact A8 z z<|⟨_,z,AR hC132 _⟩
   replace hr22:=AD hr22 hc19
   refine AJ ?_
   obtain rfl:=Aa hr22
   have hC133:=hC132.f7
   have hC134:=hC133.f7
   have hC135:=hC134.f7
   have hC136:=hC135.f7
   have hC137:=hC136.f7
   have hC138:=hC137.f7
   have hC139:=hC138.f7
   have hC140:=hC139.h7
   exact Ak (l':=[(0,u1),(22,v27),(23,v28),(24,(ptr b8 0)),(25,v30),(26,v31)]) ⟨z,z,z,z,z,z,Ai⟩<|⟨z,z,(Ap hB30).below,hC140⟩
  replace hr22:=AD hr22 hc18
  refine AJ ?_
  obtain rfl:=Aa hr22
  exact Ak (l':=[(0,u1),(22,v27),(23,v28),(24,(ptr b8 0)),(25,v30),(26,v31)]) ⟨z,z,z,z,z,z,Ai⟩<|⟨z,z,(Al _ _),hC130⟩
 rintro l10 _ w35 hs10 ⟨rfl,rfl,hB29,hC131⟩
 try dsimp only at hF
 refine AL hs10 ?_
 clear hs10
 refine Ad<|Ag z z<|be hF fun x30 hr24 hF=>A7 Tryz.call37 z z (c_S_DrawDisclosed a1 u1 (g1.now hC131.keep) x30 hr24)<|?_
 rintro _ w37 ⟨hB31,v36,v37,v38,F15,F16,F17,rfl,hv21,hv22,hv23,hn11,hb11⟩
 have hC141:=hC131.pushL hB31 (Bs:=[Ab v36 x30.1,Ab v37 x30.2.1,Ab v38 x30.2.2]) (Fs:=[F15,F16,F17]) ⟨F15,_,z,hv21,F16,_,z,hv22,F17,_,z,hv23,z⟩ (by simpa using hn11) (fun b h=>hb11 b (by simpa using h))
 have hC142:=hC141.f1
 obtain ⟨v39,v40,rfl,hC143⟩:=st37_own hC142
 refine Ag z z<|AF z z z<|AF z z z<|AF z z z<|By hC143 zero37 z z fun b9 w38 hC144 hB32 hN3=>Ae z z<|AO (cs':=[v39,v40]) (new:=[v39,v40]) hC144 0 z z (fac (Bz (hC144.ro 1 z))<|fac (Bz (hC144.ro 2 z))<|fa0) z A4 z z fun w39 hC145 hKp3=>?_
 try dsimp only [List.set] at hC145
 have hk6:=AY ((((hk4.then hB28).then hB29).then hB31).then hB32) (Bg (((hk4.then hB28).then hB29).then hB31).size hN3) hKp3
 have hk7:=AY ((((hk5.then hB28).then hB29).then hB31).then hB32) (Bg (((hk5.then hB28).then hB29).then hB31).size hN3) hKp3
 have hk8:=AY ((((Ap hB28).then hB29).then hB31).then hB32) (Bg (((Ap hB28).then hB29).then hB31).size hN3) hKp3
 have hk9:=AY (((Ap hB29).then hB31).then hB32) (Bg ((Ap hB29).then hB31).size hN3) hKp3
 have hk10:=AY ((Ap hB31).then hB32) (Bg (Ap hB31).size hN3) hKp3
 have hk11:=AY (Ap hB32) hN3 hKp3
 refine Ae z z<|Ac<|be hF fun r9 hr25 hF=>BA (fun l w=>∃x31:Bool,x31=r9∧l=[(2,(.bool x31))]∧Below w39.heap.size w39 w∧Ctx [] w0 w []) ?_ ?_
 ·refine B1 25 z hmix fun w41 hB34=>have hC147:=hC145.grow hB34;tm 0 z z z<|tm 1 z z z<|tm 3 z z z<|tm 4 z z z<|tm 6 z z z<|tm 7 z z z<|tm 9 z z z<|tm 10 z z z<|be hr25 fun x32 hr26 hr25=>wAS (l':=[(0,u1),(22,v27),(23,v28),(24,(ptr b8 0)),(25,v30),(26,v31),(29,v36),(30,(ptr b9 0)),(31,v38),(206,(.tuple #[v36,(.agg #[v39,v40]),v38])),(207,u1),(208,(.tuple #[v36,(.agg #[v39,v40]),v38])),(209,v36),(210,(.agg #[v39,v40])),(211,v38),(212,v27),(213,v28),(215,v30),(216,v31),(218,v27),(219,v28),(221,v30),(222,v31)]) ⟨z,z,z,z,z,z,z,z,z,z,z,z,z,z,z,z,z,z,z,z,z,z,z,Ai⟩<|Bw [⟨2,[],fun vs=>Bh (.agg #[v32,v33]),[]⟩,⟨5,[],fun vs=>Bh (.bool x32),[]⟩,⟨8,[],fun vs=>Bh (.agg #[v32,v33]),[]⟩] [[],[2],[]] 14 z (by kernel_rfl) (by kernel_rfl) z ?_ ?_
  ·refine An z ?_ ?_
   ·intro w43 hB36
    refine Ar<|⟨_,z,?_⟩
    exact A9 [v32,v33] (hC147.grow hB36) 5 z z z AT A4 z z<|Ac<|Ay (Al _ _) z z ⟨z,z⟩
   refine An z ?_ ?_
   ·intro w43 hB36
    refine AK z z z ?_
    rintro _ _ ⟨rfl,rfl⟩ _
    refine Ar<|⟨_,z,?_⟩
    exact cb Tryz.call15 z z (c_M_IsPrivateOrder x27.1 v27 ((hC147.grow hB36).ro 8 z) x27.2.1 v28 ((hC147.grow hB36).ro 9 z) (x27.2.2.1.1,x27.2.2.1.2) v32 ((hC147.grow hB36).ro 6 z) v33 ((hC147.grow hB36).ro 7 z) x27.2.2.2.1 v30 ((hC147.grow hB36).ro 10 z) x27.2.2.2.2 v31 ((hC147.grow hB36).ro 11 z) x32 hr26) fun w42 hB35=>Ac<|Ay hB35 z z ⟨z,z⟩
   refine An z ?_ ?_
   ·intro w43 hB36
    refine Ar<|⟨_,z,?_⟩
    exact A9 [v32,v33] (hC147.grow hB36) 5 z z z AT A4 z z<|Ac<|Ay (Al _ _) z z ⟨z,z⟩
   exact Bp
  intro w44 hB37
  refine At z z z ?_
  rintro _ _ ⟨rfl,rfl⟩
  refine At z z z ?_
  rintro _ _ ⟨rfl,rfl⟩
  refine At z z z ?_
  rintro _ _ ⟨rfl,rfl⟩
  refine B0 fun hn12 hb12=>have hC148:=hC147.grow hB37;be hr25 fun x33 hr27 hr25=>oe 11 z<|cb Tryz.call10 z z (c_S_IsPrivateOrder x27.1 v27 ((hC148.ro 8 z).now (Aq _ _)) x27.2.1 v28 ((hC148.ro 9 z).now (Aq _ _)) (x27.2.2.1.1,x27.2.2.1.2) v32 ((hC148.ro 6 z).now (Aq _ _)) v33 ((hC148.ro 7 z).now (Aq _ _)) x27.2.2.2.1 v30 ((hC148.ro 10 z).now (Aq _ _)) x27.2.2.2.2 v31 ((hC148.ro 11 z).now (Aq _ _)) x33 hr27) fun w45 hB38=>have hC149:=hC148.grow hB38;Ac<|tk 12 z z (fl_bool_eql BP z z)<|WL_bool_eql BP z z z<|Ac<|tm 13 z z z<|BQ (fun hc20=>?_) (fun hc20=>?_)
  ·replace hr25:=AC hr25 hc20
   refine tn 14 z z z z z<|tn 16 z z z z z<|tn 18 z z z z z<|tn 20 z z z z z<|be hr25 fun x34 hr28 hr25=>wAS (l':=[(0,u1),(22,v27),(23,v28),(24,(ptr b8 0)),(25,v30),(26,v31),(29,v36),(30,(ptr b9 0)),(31,v38),(206,(.tuple #[v36,(.agg #[v39,v40]),v38])),(207,u1),(208,(.tuple #[v36,(.agg #[v39,v40]),v38])),(209,v36),(210,(.agg #[v39,v40])),(211,v38),(212,v27),(213,v28),(214,(.agg #[v32,v33])),(215,v30),(216,v31),(217,(.bool x32)),(218,v27),(219,v28),(220,(.agg #[v32,v33])),(221,v30),(222,v31),(223,(.bool x33)),(224,(.bool (decide (x32=x33)))),(225,(.bool true)),(226,v36),(228,v38),(230,v36),(232,v38)]) ⟨z,z,z,z,z,z,z,z,z,z,z,z,z,z,z,z,z,z,z,z,z,z,z,z,z,z,z,z,z,z,z,z,z,Ai⟩<|Bw [⟨15,[],fun vs=>Bh (.agg #[v39,v40]),[]⟩,⟨17,[],fun vs=>PW.own x34,[]⟩,⟨19,[],fun vs=>Bh (.agg #[v39,v40]),[]⟩] [[],[15],[]] 4 z (by kernel_rfl) (by kernel_rfl) z ?_ ?_
   ·refine An z ?_ ?_
    ·intro w47 hB40
     refine Ar<|⟨_,z,?_⟩
     exact Aj z z<|A9 [v39,v40] (hC149.grow hB40) 0 z z z AT A4 z z<|Ac<|Ay (Al _ _) z z ⟨z,z⟩
    refine An z ?_ ?_
    ·intro w47 hB40
     refine AK z z z ?_
     rintro _ _ ⟨rfl,rfl⟩ _
     refine Ar<|⟨_,z,?_⟩
     refine Aj z z<|A7 Tryz.call38 z z (c_M_Disclosed x30.1 v36 ((hC149.grow hB40).ro 3 z) (x30.2.1.1,x30.2.1.2) v39 ((hC149.grow hB40).ro 1 z) v40 ((hC149.grow hB40).ro 2 z) x30.2.2 v38 ((hC149.grow hB40).ro 4 z) x34 hr28)<|?_
     rintro v41 w46 ⟨hB39,F18,hv26,hn13,hb13⟩
     exact Ac<|FinE_own hB39 z z hv26 hn13 hb13 (Val.inh hv26)
    refine An z ?_ ?_
    ·intro w47 hB40
     refine Ar<|⟨_,z,?_⟩
     exact Aj z z<|A9 [v39,v40] (hC149.grow hB40) 0 z z z AT A4 z z<|Ac<|Ay (Al _ _) z z ⟨z,z⟩
    exact Bp
   intro w48 hB41
   refine At z z z ?_
   rintro _ _ ⟨rfl,rfl⟩
   refine At z z z fun v41 F18 hv26=>At z z z<|?_
   rintro _ _ ⟨rfl,rfl⟩
   refine B0 ?_
   intro hn14 hb14
   have hC150:=hC149.pushL hB41 (Bs:=[Ab v41 (x34:(List Int))]) (Fs:=[F18]) ⟨F18,_,z,hv26,z⟩ (by simpa using hn14) (fun b h=>(hb14 b (by simpa using h)).1)
   refine be hr25 fun x35 hr29 hr25=>oe 21 z<|Aj z z<|A7 Tryz.call39 z z (c_S_Disclosed x30.1 v36 ((hC150.ro 4 z).now (Aq _ _)) (x30.2.1.1,x30.2.1.2) v39 ((hC150.ro 2 z).now (Aq _ _)) v40 ((hC150.ro 3 z).now (Aq _ _)) x30.2.2 v38 ((hC150.ro 5 z).now (Aq _ _)) x35 hr29)<|?_
   rintro v42 w49 ⟨hB42,F19,hv27,hn15,hb15⟩
   have hC151:=hC150.push hB42 (A:=Ab v42 x35) hv27 hn15 hb15
   refine Ac<|be hr25 fun x36 hr30 hr25=>oe 22 z<|Aj z z<|cb Tryz.call34 z z (c_Q_sameInts x34 v41 ((hC151.ro 1 z).now (Aq _ _)) x35 v42 ((hC151.ro 0 z).now (Aq _ _)) x36 hr30) fun w50 hB43=>have hC152:=hC151.grow hB43;Ac<|tp 23 z z z z<|ta 24 z z z<|dn<|?_
   obtain rfl:=Aa hr25
   have hC153:=hC152.h0
   exact Ak (l':=[(2,(.bool x36))]) ⟨z,Ai⟩<|⟨x36,z,z,((((((Ap hB34).then hB37).then hB38).then hB41).then hB42).then hB43).below,hC153⟩
  replace hr25:=AD hr25 hc20
  refine sk 14 z z z z z<|sk 15 z z z z z<|sk 16 z z z z z<|sk 17 z z z z z<|sk 18 z z z z z<|sk 19 z z z z z<|sk 20 z z z z z<|sk 21 z z z z z<|sk 22 z z z z z<|tq 23 z z z z<|ta 24 z z z<|dn<|?_
  obtain rfl:=Aa hr25
  have hC154:=hC149.h0
  exact Ak (l':=[(2,(.bool false))]) ⟨z,Ai⟩<|⟨false,z,z,(((Ap hB34).then hB37).then hB38).below,hC154⟩
 rintro _ w40 ⟨x31,rfl,rfl,hB33,hC146⟩
 try dsimp only at hF
 refine AP ?_
 obtain rfl:=Aa hF
 exact A8 z z<|⟨_,z,AR hC146 _⟩
end Go.Gx.Px
