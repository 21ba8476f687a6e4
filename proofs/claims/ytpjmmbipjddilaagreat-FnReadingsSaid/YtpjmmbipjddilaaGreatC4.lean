/- The contracts of the Go functions against the pure functions, printed by program. Conditions: each says them. -/
import Derived.Test.YtpjmmbipjddilaaGreatC3
set_option linter.unusedVariables false
set_option linter.unusedSimpArgs false
set_option maxRecDepth 100000
set_option maxHeartbeats 4000000
namespace Go.Gx.Px
open Go.Proofs Go.RowKit
open K9
theorem c_M_ReadThrough {w0:World} (a1:(List Int)) (u1:Value) (g1:RO [] w0 u1 a1) (a2:(List (Int × (List Int) × Int × Int × Int))) (u2:Value) (g2:RO [] w0 u2 a2) (a3:((List (Int × (List Int))) × Int)) (u3:Value) (g3:RO [] w0 u3 a3.1) (a4:(Int × (List Int))) (u4:Value) (g4:RO [] w0 u4 a4.2) (a5:Int) (a6:(List (Bool × (Int × (List Int))))) (u5:Value) (g5:RO [] w0 u5 a6) (a7:Int) (rr:(((List (Int × (List Int))) × Int × Int × Int × Bool) × ((List (Int × (List Int))) × Int))) (hF:M.ReadThrough a1 a2 a3 a4 a5 a6 a7=some rr) :
 Calls Tryz.prog 23 [u1,u2,(.agg #[u3,(I a3.2)]),(.agg #[(I a4.1),u4]),(I a5),u5,(I a7)].toArray w0 fun e w'=>∃v,e=.returned v∧Res2 w0 rr.1 rr.2 v w':=by
 refine A3 Tryz.func23 z z ?_
 have hC0:=AH w0
 unfold M.ReadThrough at hF
 refine Ad<|Bz (cs:=[u3,(I a3.2)]) hC0 z z z fun b1 w1 hC1 hB1 hN1=>Bz (cs:=[(I a4.1),u4]) hC1 z z z fun b2 w2 hC2 hB2 hN2=>Bd hC2 zero59 z z fun b3 w3 hC3 hB3 hN3=>Bd hC3 zero27 z z fun b4 w4 hC4 hB4 hN4=>Ab<|Ad<|At [u3,(I a3.2)] hC4 3 z z z A8 Az z z<|be hF fun x1 hr1 hF=>AJ Tryz.call32 z z (c_M_copySource (a3.1,a3.2) u3 (g3.now hC4.keep) x1 hr1)<|?_
 rintro v1 w5 ⟨hB5,F1,hv1,hn1,hb1⟩
 have hC5:=hC4.push hB5 (A:=Ag v1 x1) hv1 hn1 hb1
 obtain ⟨v2,rfl,hC6⟩:=st27_own hC5
 refine Bd hC6 zero27 z z fun b5 w6 hC7 hB6 hN5=>Aj (cs':=[v2,(I x1.2)]) (new:=[v2,(I x1.2)]) hC7 0 z z (fac (AT (hC7.ro 1 z))<|fac z<|fa0) z Az z z fun w7 hC8 hKp1=>?_
 try dsimp only [List.set] at hC8
 have hk1:=Ar ((((((Al hB1).then hB2).then hB3).then hB4).then hB5).then hB6) (Ao (((((Al hB1).then hB2).then hB3).then hB4).then hB5).size hN5) hKp1
 have hk2:=Ar (((((Al hB2).then hB3).then hB4).then hB5).then hB6) (Ao ((((Al hB2).then hB3).then hB4).then hB5).size hN5) hKp1
 have hk3:=Ar ((((Al hB3).then hB4).then hB5).then hB6) (Ao (((Al hB3).then hB4).then hB5).size hN5) hKp1
 have hk4:=Ar (((Al hB4).then hB5).then hB6) (Ao ((Al hB4).then hB5).size hN5) hKp1
 have hk5:=Ar ((Al hB5).then hB6) (Ao (Al hB5).size hN5) hKp1
 have hk6:=Ar (Al hB6) hN5 hKp1
 refine Ab<|Ad<|Ae z z<|Ae z z<|At [u3,(I a3.2)] hC8 5 z z z A8 Az z z<|At [(I a4.1),u4] hC8 4 z z z Bl A9 z z<|be hF fun x2 hr2 hF=>AJ Tryz.call17 z z (c_M_OpenCursor a1 u1 (g1.now hC8.keep) a2 u2 (g2.now hC8.keep) (a3.1,a3.2) u3 (g3.now hC8.keep) (a4.1,a4.2) u4 (g4.now hC8.keep) x2 hr2)<|?_
 rintro _ w9 ⟨hB7,v3,v4,F2,F3,rfl,hv2,hv3,hn2,hb2⟩
 obtain ⟨rfl,rfl⟩:=val_bool hv3
 have hC9:=hC8.pushL hB7 (Bs:=[Ag v3 x2.1]) (Fs:=[F2]) ⟨F2,_,z,hv2,z⟩ (by simpa using hn2) (fun b h=>hb2 b (by simpa using h))
 obtain ⟨v5,rfl,hC10⟩:=st49_own hC9
 refine Ae z z<|Bn z z z<|Bn z z z<|Bd hC10 zero49 z z fun b6 w10 hC11 hB8 hN6=>Aj (cs':=[(I x2.1.1.1),v5,(I x2.1.2.1),(I x2.1.2.2)]) (new:=[(I x2.1.1.1),v5,(I x2.1.2.1),(I x2.1.2.2)]) hC11 0 z z (fac z<|fac (AT (hC11.ro 1 z))<|fac z<|fac z<|fa0) z AC z z fun w11 hC12 hKp2=>?_
 try dsimp only [List.set] at hC12
 have hk7:=Ar ((hk1.then hB7).then hB8) (Ao (hk1.then hB7).size hN6) hKp2
 have hk8:=Ar ((hk2.then hB7).then hB8) (Ao (hk2.then hB7).size hN6) hKp2
 have hk9:=Ar ((hk3.then hB7).then hB8) (Ao (hk3.then hB7).size hN6) hKp2
 have hk10:=Ar ((hk4.then hB7).then hB8) (Ao (hk4.then hB7).size hN6) hKp2
 have hk11:=Ar ((hk5.then hB7).then hB8) (Ao (hk5.then hB7).size hN6) hKp2
 have hk12:=Ar ((hk6.then hB7).then hB8) (Ao (hk6.then hB7).size hN6) hKp2
 have hk13:=Ar ((Al hB7).then hB8) (Ao (Al hB7).size hN6) hKp2
 have hk14:=Ar (Al hB8) hN6 hKp2
 refine Af z z<|Ab<|AA<|be hF fun r1 hr3 hF=>BL (fun l w=>∃x3:Bool,x3=r1∧l=[(0,u1),(1,u2),(4,(I a5)),(5,u5),(6,(I a7)),(10,(ptr b2 0)),(14,(ptr b3 0)),(15,(ptr b4 0)),(16,(ptr b5 0)),(17,(ptr b6 0)),(44,(.bool x3))]∧Below w11.heap.size w11 w∧Ctx [] w0 w [Ac b6 [(I x2.1.1.1),v5,(I x2.1.2.1),(I x2.1.2.2)],Ag v5 (x2.1.1.2:(List Int)),Ac b5 [v2,(I x1.2)],Ag v2 (x1.1:(List (Int × (List Int)))),Ac b4 [(.slice none 0 0),(I 0)],Ac b3 [(.slice none 0 0),(I 0),(I 0),(I 0),(.bool false)],Ac b2 [(I a4.1),u4]]) ?_ ?_
 ·refine Bt<|Ae z z<|B2 z z<|Ae z z<|B3 (fun hc1=>?_) (fun hc1=>?_)
  ·replace hr3:=AD hr3 hc1
   refine gs z z z z<|gs z z z z<|gs z z z z<|AI z z z<|Ae z z<|gs z z z z<|gs z z z z<|gs z z z z<|AI z z z<|Ab<|?_
   obtain rfl:=Aa hr3
   have hC14:=hC12.f6
   have hC15:=hC14.f6
   have hC16:=hC15.f6
   have hC17:=hC16.f6
   have hC18:=hC17.f6
   have hC19:=hC18.f6
   have hC20:=hC19.f6
   have hC21:=hC20.h7
   exact Ay (l':=[(0,u1),(1,u2),(4,(I a5)),(5,u5),(6,(I a7)),(10,(ptr b2 0)),(14,(ptr b3 0)),(15,(ptr b4 0)),(16,(ptr b5 0)),(17,(ptr b6 0)),(44,(.bool true))]) ⟨z,z,z,z,z,z,z,z,z,z,z,Ak⟩<|⟨true,z,z,(An _ _),hC21⟩
  replace hr3:=AE hr3 hc1
  refine Ai z z<|Ae z z<|be hr3 fun x4 hr4 hr3=>Ai z z<|cb Tryz.call57 z z (c_M_isPage a5 x4 hr4) fun w13 hB10=>have hC22:=hC12.grow hB10;Ai z z<|B2 z z<|AY z z z<|Ae z z<|B3 (fun hc2=>?_) (fun hc2=>?_)
  ·replace hr3:=AD hr3 hc2
   refine gs z z z z<|gs z z z z<|gs z z z z<|AI z z z<|Ab<|?_
   obtain rfl:=Aa hr3
   have hC23:=hC22.f6
   have hC24:=hC23.f6
   have hC25:=hC24.f6
   have hC26:=hC25.f6
   have hC27:=hC26.f6
   have hC28:=hC27.f6
   have hC29:=hC28.f6
   have hC30:=hC29.h7
   exact Ay (l':=[(0,u1),(1,u2),(4,(I a5)),(5,u5),(6,(I a7)),(10,(ptr b2 0)),(14,(ptr b3 0)),(15,(ptr b4 0)),(16,(ptr b5 0)),(17,(ptr b6 0)),(44,(.bool true))]) ⟨z,z,z,z,z,z,z,z,z,z,z,Ak⟩<|⟨true,z,z,(Al hB10).below,hC30⟩
  replace hr3:=AE hr3 hc2
  refine Ai z z<|Ae z z<|be hr3 fun x5 hr5 hr3=>Ai z z<|cb BQ z z (c_M_within a7 0 20 x5 hr5) fun w14 hB11=>have hC31:=hC22.grow hB11;Ai z z<|B2 z z<|AY z z z<|Ab<|?_
  obtain rfl:=Aa hr3
  have hC32:=hC31.f6
  have hC33:=hC32.f6
  have hC34:=hC33.f6
  have hC35:=hC34.f6
  have hC36:=hC35.f6
  have hC37:=hC36.f6
  have hC38:=hC37.f6
  have hC39:=hC38.h7
  exact Ay (l':=[(0,u1),(1,u2),(4,(I a5)),(5,u5),(6,(I a7)),(10,(ptr b2 0)),(14,(ptr b3 0)),(15,(ptr b4 0)),(16,(ptr b5 0)),(17,(ptr b6 0)),(44,(.bool (!x5)))]) ⟨z,z,z,z,z,z,z,z,z,z,z,Ak⟩<|⟨(!x5),z,z,((Al hB10).then hB11).below,hC39⟩
 rintro _ w12 ⟨x3,rfl,rfl,hB9,hC13⟩
 try dsimp only at hF
 refine AL z (fun hc3=>?_) (fun hc3=>?_)
 ·replace hF:=AD hF hc3
  refine be hF fun r2 hr6 hF=>BL (fun l w=>∃v6:Value,∃x6:(List (Int × (List Int))),∃x7:Int,∃v7:Value,∃x8:(List (Int × (List Int))),∃x9:Int,∃x10:Int,∃x11:Int,∃x12:Bool,(x6,x7,x8,x9,x10,x11,x12)=r2∧l=[(14,(ptr b3 0)),(15,(ptr b4 0))]∧Ctx [] w0 w [Ag v7 (x8:(List (Int × (List Int)))),Ag v6 (x6:(List (Int × (List Int)))),Ac b4 [v6,(I x7)],Ac b3 [v7,(I x9),(I x10),(I x11),(.bool x12)]]) ?_ ?_
  ·refine W_drawn 4 z hmix fun w16 hB13=>have hC41:=hC13.grow hB13;tk 0 z z (Cp (vs:=[]) z z built59)<|BD (vs:=[]) z z z built59<|Ab<|Ci (i:=1) (j:=2) (by kernel_rfl) z z ?_ ?_
   ·refine At [v2,(I x1.2)] hC41 2 z z z A8 Az z z<|Ab<|oe 2 z<|Aj (cs':=[(.slice none 0 0),(I 0),(I 0),(I 0),(.bool false)]) (new:=[(.slice none 0 0),(I 0),(I 0),(I 0),(.bool false)]) hC41 5 z z (fac z<|fac z<|fac z<|fac z<|fac z<|fa0) z Bj z z fun w17 hC42 hKp3=>?_
    try dsimp only [List.set] at hC42
    have hk15:=Ar ((hk7.then hB9).then hB13) (Ao ((Al hB1).then hB2).size hN3) hKp3
    have hk16:=Ar ((hk8.then hB9).then hB13) (Ao (Al hB2).size hN3) hKp3
    have hk17:=Ar ((hk9.then hB9).then hB13) hN3 hKp3
    refine Ab<|oe 3 z<|Aj (cs':=[v2,(I x1.2)]) (new:=[v2,(I x1.2)]) hC42 4 z z (fac (AT (hC42.ro 3 z))<|fac z<|fa0) z Az z z fun w18 hC43 hKp4=>?_
    try dsimp only [List.set] at hC43
    have hk18:=Ar hk15 (Ao (((Al hB1).then hB2).then hB3).size hN4) hKp4
    have hk19:=Ar hk16 (Ao ((Al hB2).then hB3).size hN4) hKp4
    have hk20:=Ar hk17 (Ao (Al hB3).size hN4) hKp4
    refine Ab<|dn<|?_
    obtain rfl:=Aa hr6
    have hC44:=hC43.triv (nil_val (α:=(Int × (List Int))))
    have hC45:=hC44.f6
    have hC46:=hC45.f6
    have hC47:=hC46.f6
    have hC48:=hC47.f3
    have hC49:=hC48.h4
    exact Ay (l':=[(14,(ptr b3 0)),(15,(ptr b4 0))]) ⟨z,z,Ak⟩<|⟨v2,x1.1,x1.2,(.slice none 0 0),[],0,0,0,false,z,z,hC49⟩
   refine Aj (cs':=[(.slice none 0 0),(I 0),(I 0),(I 0),(.bool false)]) (new:=[(.slice none 0 0),(I 0),(I 0),(I 0),(.bool false)]) hC41 5 z z (fac z<|fac z<|fac z<|fac z<|fac z<|fa0) z Bj z z (fun w17 hC42 hKp3=>?_)
   try dsimp only [List.set] at hC42
   have hk15:=Ar ((hk7.then hB9).then hB13) (Ao ((Al hB1).then hB2).size hN3) hKp3
   have hk16:=Ar ((hk8.then hB9).then hB13) (Ao (Al hB2).size hN3) hKp3
   have hk17:=Ar ((hk9.then hB9).then hB13) hN3 hKp3
   refine Ab<|oe 1 z<|At [v2,(I x1.2)] hC42 2 z z z A8 Az z z<|Ab<|oe 3 z<|Aj (cs':=[v2,(I x1.2)]) (new:=[v2,(I x1.2)]) hC42 4 z z (fac (AT (hC42.ro 3 z))<|fac z<|fa0) z Az z z fun w18 hC43 hKp4=>?_
   try dsimp only [List.set] at hC43
   have hk18:=Ar hk15 (Ao (((Al hB1).then hB2).then hB3).size hN4) hKp4
   have hk19:=Ar hk16 (Ao ((Al hB2).then hB3).size hN4) hKp4
   have hk20:=Ar hk17 (Ao (Al hB3).size hN4) hKp4
   refine Ab<|dn<|?_
   obtain rfl:=Aa hr6
   have hC44:=hC43.triv (nil_val (α:=(Int × (List Int))))
   have hC45:=hC44.f6
   have hC46:=hC45.f6
   have hC47:=hC46.f6
   have hC48:=hC47.f3
   have hC49:=hC48.h4
   exact Ay (l':=[(14,(ptr b3 0)),(15,(ptr b4 0))]) ⟨z,z,Ak⟩<|⟨v2,x1.1,x1.2,(.slice none 0 0),[],0,0,0,false,z,z,hC49⟩
  rintro _ w15 ⟨v6,x6,x7,v7,x8,x9,x10,x11,x12,rfl,rfl,hC40⟩
  try dsimp only at hF
  refine AK (A2 ?_)
  obtain rfl:=Aa hF
  refine BZ z (rv_cell_agg (cs':=[v7,(I x9),(I x10),(I x11),(.bool x12)]) hC40 (i:=3) z z z BT Bj z) (rv_cell_agg (cs':=[v6,(I x7)]) hC40 (i:=2) z z z A8 Az z)<|have hC51:=hC40.f1;?_
  have hC50:=Cb v6 x6 x7 hC51
  have hC53:=hC50.f1
  have hC52:=CM v7 x8 x9 x10 x11 x12 hC53
  exact ⟨_,z,res2_of hC52⟩
 replace hF:=AE hF hc3
 refine AM<|Av<|Ad<|BD (vs:=[]) z z z built59<|Bd hC13 zero59 z z fun b7 w19 hC54 hB14 hN7=>Aj (cs':=[(.slice none 0 0),(I 0),(I 0),(I 0),(.bool false)]) (new:=[(.slice none 0 0),(I 0),(I 0),(I 0),(.bool false)]) hC54 0 z z (fac z<|fac z<|fac z<|fac z<|fac z<|fa0) z Bj z z fun w20 hC55 hKp5=>?_
 try dsimp only [List.set] at hC55
 have hk21:=Ar ((hk7.then hB9).then hB14) (Ao (hk7.then hB9).size hN7) hKp5
 have hk22:=Ar ((hk8.then hB9).then hB14) (Ao (hk8.then hB9).size hN7) hKp5
 have hk23:=Ar ((hk9.then hB9).then hB14) (Ao (hk9.then hB9).size hN7) hKp5
 have hk24:=Ar ((hk10.then hB9).then hB14) (Ao (hk10.then hB9).size hN7) hKp5
 have hk25:=Ar ((hk11.then hB9).then hB14) (Ao (hk11.then hB9).size hN7) hKp5
 have hk26:=Ar ((hk12.then hB9).then hB14) (Ao (hk12.then hB9).size hN7) hKp5
 have hk27:=Ar ((hk13.then hB9).then hB14) (Ao (hk13.then hB9).size hN7) hKp5
 have hk28:=Ar ((hk14.then hB9).then hB14) (Ao (hk14.then hB9).size hN7) hKp5
 have hk29:=Ar ((Al hB9).then hB14) (Ao (Al hB9).size hN7) hKp5
 have hk30:=Ar (Al hB14) hN7 hKp5
 refine Ab<|be hF fun r3 hr7 hF=>Bx (fun _ _=>False) ?_ ?_
 ·refine Bb ?_
  have hC168:=hC55.triv (nil_val (α:=(Int × (List Int))))
  have hC169:=hC168.triv (nil_val (α:=(Int × (List Int))))
  have hC170:=hC169.triv (nil_val (α:=(Int × (List Int))))
  have hC171:=hC170.f10
  have hC172:=hC171.f10
  have hC173:=hC172.f10
  have hC174:=hC173.f10
  have hC175:=hC174.f10
  have hC176:=hC175.f10
  have hC177:=hC176.f10
  have hC178:=hC177.f10
  have hC179:=hC178.f8
  have hC180:=hC179.f9
  have hC181:=hC180.f10
  refine wS (l':=[(0,u1),(1,u2),(4,(I a5)),(5,u5),(6,(I a7)),(10,(ptr b2 0)),(14,(ptr b3 0)),(15,(ptr b4 0)),(16,(ptr b5 0)),(17,(ptr b6 0)),(19,(ptr b7 0))]) ⟨z,z,z,z,z,z,z,z,z,z,z,Ak⟩<|BE (fun k l w=>∃v8:Value,∃x13:(List (Int × (List Int))),∃x14:Int,∃x15:Int,∃x16:Int,∃x17:Bool,∃x18:Int,∃v9:Value,∃x19:(List Int),∃x20:Int,∃x21:Int,∃v10:Value,∃x22:(List (Int × (List Int))),∃x23:Int,∃v11:Value,∃x24:(List (Int × (List Int))),∃x25:Int,∃v12:Value,∃x26:(List (Int × (List Int))),∃x27:Int,∃x28:Int,∃x29:Int,∃x30:Bool,∃v13:Value,∃x31:(List (Bool × (Int × (List Int)))),l=[(0,u1),(1,u2),(4,(I a5)),(5,v13),(6,(I a7)),(10,(ptr b2 0)),(14,(ptr b3 0)),(15,(ptr b4 0)),(16,(ptr b5 0)),(17,(ptr b6 0)),(19,(ptr b7 0))]∧Ctx [] w0 w [Ag v12 (x26:(List (Int × (List Int)))),Ag v11 (x24:(List (Int × (List Int)))),Ag v8 (x13:(List (Int × (List Int)))),Ac b7 [v8,(I x14),(I x15),(I x16),(.bool x17)],Ac b6 [(I x18),v9,(I x20),(I x21)],Ag v9 (x19:(List Int)),Ac b5 [v10,(I x23)],Ag v10 (x22:(List (Int × (List Int)))),Ac b4 [v11,(I x25)],Ac b3 [v12,(I x27),(I x28),(I x29),(.bool x30)],Ac b2 [(I a4.1),u4]]∧RO [] w0 v13 x31∧M.ReadThrough_l1 a1 a2 a5 a7 a4 k x13 x14 x15 x16 x17 x18 x19 x20 x21 x22 x23 x24 x25 x26 x27 x28 x29 x30 x31=some r3) FUEL ⟨(.slice none 0 0),[],0,0,0,false,x2.1.1.1,v5,x2.1.1.2,x2.1.2.1,x2.1.2.2,v2,x1.1,x1.2,(.slice none 0 0),[],0,(.slice none 0 0),[],0,0,0,false,u5,a6,z,hC181,g5,hr7⟩<|?_
  clear hr7
  rintro k1 _ w21 ⟨v8,x13,x14,x15,x16,x17,x18,v9,x19,x20,x21,v10,x22,x23,v11,x24,x25,v12,x26,x27,x28,x29,x30,v13,x31,rfl,hC56,h1,hL1⟩
  cases k1 with
  | zero=>rw [M.ReadThrough_l1] at hL1; cases hL1
  | succ k1 =>
   rw [M.ReadThrough_l1] at hL1
   refine Bb<|Ad<|Ae z z<|Ae z z<|At [v10,(I x23)] hC56 6 z z z A8 Az z z<|At [(I x18),v9,(I x20),(I x21)] hC56 4 z z z Bp AC z z<|Ae z z<|be hL1 fun x50 hr8 hL1=>AJ Tryz.call20 z z (c_M_NextPage a1 u1 (g1.now hC56.keep) a2 u2 (g2.now hC56.keep) (x22,x23) v10 ((hC56.ro 7 z).now (B5 _ _)) ((x18,x19),x20,x21) v9 ((hC56.ro 5 z).now (B5 _ _)) a5 x50 hr8)<|?_
   rintro _ w22 ⟨hB16,v19,v20,v21,F4,F5,F6,rfl,hv6,hv7,hv8,hn3,hb3⟩
   obtain ⟨rfl,rfl⟩:=val_int hv8
   have hC57:=hC56.pushL hB16 (Bs:=[Ag v19 x50.1,Ag v20 x50.2.1]) (Fs:=[F4,F5]) ⟨F4,_,z,hv6,F5,_,z,hv7,z⟩ (by simpa using hn3) (fun b h=>hb3 b (by simpa using h))
   have hC58:=hC57.f1
   obtain ⟨v22,rfl,hC59⟩:=st49_own hC58
   refine Ae z z<|Bn z z z<|Bn z z z<|Bn z z z<|Bd hC59 zero49 z z fun b8 w23 hC60 hB17 hN8=>Af z z<|Aj (cs':=[(I x50.2.1.1.1),v22,(I x50.2.1.2.1),(I x50.2.1.2.2)]) (new:=[(I x50.2.1.1.1),v22,(I x50.2.1.2.1),(I x50.2.1.2.2)]) hC60 0 z z (fac z<|fac (AT (hC60.ro 1 z))<|fac z<|fac z<|fa0) z AC z z fun w24 hC61 hKp6=>?_
   try dsimp only [List.set] at hC61
   have hk31:=Ar ((Al hB16).then hB17) (Ao (Al hB16).size hN8) hKp6
   have hk32:=Ar (Al hB17) hN8 hKp6
   refine Af z z<|Ab<|Ad<|fd AF Ax z z z z<|Aq hC61 6 z z A6 z z<|Bw z z z<|fd AF Ax z z z z<|Bc (cs':=[v8,(I x14),(I (w64 (x15+1))),(I x16),(.bool x17)]) hC61 6 z z z z Ax z z fun w25 hC62 hKp7=>?_
   try dsimp only [List.set] at hC62
   refine Ab<|AA<|Ad<|Ae z z<|BP z z z<|Ab<|AL z (fun hc4=>?_) (fun hc4=>?_)
   ·replace hL1:=AD hL1 hc4
    refine Ad<|fd AF AG z z z z<|Bc (cs':=[(.slice none 0 0),(I x14),(I (w64 (x15+1))),(I x16),(.bool x17)]) hC62 6 z z z z AG z z fun w26 hC63 hKp8=>?_
    try dsimp only [List.set] at hC63
    refine Ab<|AA<|Ad<|fd AF Ax z z z z<|Aq hC63 6 z z A6 z z<|Ae z z<|Cu z z z<|Ab<|AL z (fun hc5=>?_) (fun hc5=>?_)
    ·replace hL1:=AD hL1 hc5
     refine be hL1 fun r4 hr9 hL1=>BL (fun l w=>∃v23:Value,∃x51:(List (Int × (List Int))),∃x52:Int,∃v24:Value,∃x53:(List (Int × (List Int))),∃x54:Int,∃x55:Int,∃x56:Int,∃x57:Bool,(x51,x52,x53,x54,x55,x56,x57)=r4∧l=[(14,(ptr b3 0)),(15,(ptr b4 0))]∧Ctx [] w0 w [Ag v24 (x53:(List (Int × (List Int)))),Ag v23 (x51:(List (Int × (List Int)))),Ac b4 [v23,(I x52)],Ac b3 [v24,(I x54),(I x55),(I x56),(.bool x57)]]) ?_ ?_
     ·refine W_drawn 4 z hmix fun w28 hB19=>have hC65:=hC63.grow hB19;wAS (l':=[(0,u1),(1,u2),(4,(I a5)),(5,v13),(6,(I a7)),(10,(ptr b2 0)),(14,(ptr b3 0)),(15,(ptr b4 0)),(16,(ptr b5 0)),(17,(ptr b6 0)),(19,(ptr b7 0)),(20,v19),(21,(ptr b8 0)),(22,(I x50.2.2)),(48,(.tuple #[v19,(.agg #[(I x50.2.1.1.1),v22,(I x50.2.1.2.1),(I x50.2.1.2.2)]),(I x50.2.2)])),(49,u1),(50,u2),(51,(.agg #[v10,(I x23)])),(52,(.agg #[(I x18),v9,(I x20),(I x21)])),(53,(I a5)),(54,(.tuple #[v19,(.agg #[(I x50.2.1.1.1),v22,(I x50.2.1.2.1),(I x50.2.1.2.2)]),(I x50.2.2)])),(55,v19),(56,(.agg #[(I x50.2.1.1.1),v22,(I x50.2.1.2.1),(I x50.2.1.2.2)])),(57,(I x50.2.2)),(58,(ptr b7 2)),(59,(I x15)),(60,(I (w64 (x15+1)))),(61,(ptr b7 2)),(62,(I x50.2.2)),(63,(.bool (decide (x50.2.2=2)))),(64,(ptr b7 0)),(65,(ptr b7 3)),(66,(I x16)),(67,(I a7)),(68,(.bool (decide (a7 ≤ x16))))]) ⟨z,z,z,z,z,z,z,z,z,z,z,z,z,z,z,z,z,z,z,z,z,z,z,z,z,z,z,z,z,z,z,z,z,z,z,Ak⟩<|C6 [⟨0,[],fun vs=>AR (.agg #[(.slice none 0 0),(I x14),(I (w64 (x15+1))),(I x16),(.bool x17)]),[]⟩,⟨1,[],fun vs=>AR (.agg #[v10,(I x23)]),[]⟩] [[],[]] [1] 2 z (by kernel_rfl) (by kernel_rfl) ?_ ⟨?_,?_,Ak⟩
      ·refine Am z ?_ ?_
       ·intro w29 hB20
        refine Aw<|⟨_,z,?_⟩
        exact At [(.slice none 0 0),(I x14),(I (w64 (x15+1))),(I x16),(.bool x17)] (hC65.grow hB20) 6 z z z BT Bj z z<|Ab<|A0 (An _ _) z z ⟨z,z⟩
       refine Am z ?_ ?_
       ·intro w29 hB20
        refine Aw<|⟨_,z,?_⟩
        exact At [v10,(I x23)] (hC65.grow hB20) 9 z z z A8 Az z z<|Ab<|A0 (An _ _) z z ⟨z,z⟩
       exact Ba
      ·intro g' hg'
       obtain rfl:g'=2:=hg'
       intro w30 hB21
       refine Au z z z ?_
       rintro _ _ ⟨rfl,rfl⟩
       refine Au z z z ?_
       rintro _ _ ⟨rfl,rfl⟩
       refine Bh fun hn4 hb4=>have hC66:=hC65.grow hB21;oe 2 z<|Aj (cs':=[(.slice none 0 0),(I x14),(I (w64 (x15+1))),(I x16),(.bool x17)]) (new:=[(.slice none 0 0),(I x14),(I (w64 (x15+1))),(I x16),(.bool x17)]) hC66 12 z z (fac z<|fac z<|fac z<|fac z<|fac z<|fa0) z Bj z z fun w31 hC67 hKp9=>?_
       try dsimp only [List.set] at hC67
       refine Ab<|oe 3 z<|Aj (cs':=[v10,(I x23)]) (new:=[v10,(I x23)]) hC67 11 z z (fac (AT (hC67.ro 10 z))<|fac z<|fa0) z Az z z fun w32 hC68 hKp10=>?_
       try dsimp only [List.set] at hC68
       refine Ab<|dn<|?_
       obtain rfl:=Aa hr9
       have hC69:=hC68.triv (nil_val (α:=(Int × (List Int))))
       have hC70:=hC69.f13
       have hC71:=hC70.f13
       have hC72:=hC71.f13
       have hC73:=hC72.f3
       have hC74:=hC73.h4
       exact Ay (l':=[(14,(ptr b3 0)),(15,(ptr b4 0))]) ⟨z,z,Ak⟩<|⟨v10,x22,x23,(.slice none 0 0),[],x14,w64 (x15+1),x16,x17,z,z,hC74⟩
      intro g' hg'
      obtain rfl:g'=3:=hg'
      intro w30 hB21
      refine Au z z z ?_
      rintro _ _ ⟨rfl,rfl⟩
      refine Bh fun hn4 hb4=>have hC66:=hC65.grow hB21;Ci (i:=1) (j:=2) (by kernel_rfl) z z ?_ ?_
      ·refine At [v10,(I x23)] hC66 9 z z z A8 Az z z<|Ab<|oe 2 z<|Aj (cs':=[(.slice none 0 0),(I x14),(I (w64 (x15+1))),(I x16),(.bool x17)]) (new:=[(.slice none 0 0),(I x14),(I (w64 (x15+1))),(I x16),(.bool x17)]) hC66 12 z z (fac z<|fac z<|fac z<|fac z<|fac z<|fa0) z Bj z z fun w31 hC67 hKp9=>?_
       try dsimp only [List.set] at hC67
       refine Ab<|oe 3 z<|Aj (cs':=[v10,(I x23)]) (new:=[v10,(I x23)]) hC67 11 z z (fac (AT (hC67.ro 10 z))<|fac z<|fa0) z Az z z fun w32 hC68 hKp10=>?_
       try dsimp only [List.set] at hC68
       refine Ab<|dn<|?_
       obtain rfl:=Aa hr9
       have hC69:=hC68.triv (nil_val (α:=(Int × (List Int))))
       have hC70:=hC69.f13
       have hC71:=hC70.f13
       have hC72:=hC71.f13
       have hC73:=hC72.f3
       have hC74:=hC73.h4
       exact Ay (l':=[(14,(ptr b3 0)),(15,(ptr b4 0))]) ⟨z,z,Ak⟩<|⟨v10,x22,x23,(.slice none 0 0),[],x14,w64 (x15+1),x16,x17,z,z,hC74⟩
      refine Aj (cs':=[(.slice none 0 0),(I x14),(I (w64 (x15+1))),(I x16),(.bool x17)]) (new:=[(.slice none 0 0),(I x14),(I (w64 (x15+1))),(I x16),(.bool x17)]) hC66 12 z z (fac z<|fac z<|fac z<|fac z<|fac z<|fa0) z Bj z z (fun w31 hC67 hKp9=>?_)
      try dsimp only [List.set] at hC67
      refine Ab<|oe 1 z<|At [v10,(I x23)] hC67 9 z z z A8 Az z z<|Ab<|oe 3 z<|Aj (cs':=[v10,(I x23)]) (new:=[v10,(I x23)]) hC67 11 z z (fac (AT (hC67.ro 10 z))<|fac z<|fa0) z Az z z fun w32 hC68 hKp10=>?_
      try dsimp only [List.set] at hC68
      refine Ab<|dn<|?_
      obtain rfl:=Aa hr9
      have hC69:=hC68.triv (nil_val (α:=(Int × (List Int))))
      have hC70:=hC69.f13
      have hC71:=hC70.f13
      have hC72:=hC71.f13
      have hC73:=hC72.f3
      have hC74:=hC73.h4
      exact Ay (l':=[(14,(ptr b3 0)),(15,(ptr b4 0))]) ⟨z,z,Ak⟩<|⟨v10,x22,x23,(.slice none 0 0),[],x14,w64 (x15+1),x16,x17,z,z,hC74⟩
     rintro _ w27 ⟨v23,x51,x52,v24,x53,x54,x55,x56,x57,rfl,rfl,hC64⟩
     try dsimp only at hL1
     refine AK (A2 (A2 (Bu (A2 (Bu (A2 ?_))))))
     obtain rfl:=Aa hL1
     dsimp only at hF
     obtain rfl:=Aa hF
     refine BZ z (rv_cell_agg (cs':=[v24,(I x54),(I x55),(I x56),(.bool x57)]) hC64 (i:=3) z z z BT Bj z) (rv_cell_agg (cs':=[v23,(I x52)]) hC64 (i:=2) z z z A8 Az z)<|have hC76:=hC64.f1;?_
     have hC75:=Cb v23 x51 x52 hC76
     have hC78:=hC75.f1
     have hC77:=CM v24 x53 x54 x55 x56 x57 hC78
     exact ⟨_,z,res2_of hC77⟩
    replace hL1:=AE hL1 hc5
    refine AM<|Av<|Ad<|fd AF Ax z z z z<|Aq hC63 6 z z A6 z z<|Bw z z z<|fd AF Ax z z z z<|Bc (cs':=[(.slice none 0 0),(I x14),(I (w64 (x15+1))),(I (w64 (x16+1))),(.bool x17)]) hC63 6 z z z z Ax z z fun w33 hC79 hKp11=>?_
    try dsimp only [List.set] at hC79
    refine Ab<|Ad<|Ae z z<|Ae z z<|At [v10,(I x23)] hC79 9 z z z A8 Az z z<|At [(I a4.1),u4] hC79 13 z z z Bl A9 z z<|be hL1 fun x58 hr10 hL1=>AJ Tryz.call17 z z (c_M_OpenCursor a1 u1 (g1.now hC79.keep) a2 u2 (g2.now hC79.keep) (x22,x23) v10 ((hC79.ro 10 z).now (B5 _ _)) (a4.1,a4.2) u4 (g4.now hC79.keep) x58 hr10)<|?_
    rintro _ w34 ⟨hB22,v25,v26,F7,F8,rfl,hv9,hv10,hn5,hb5⟩
    obtain ⟨rfl,rfl⟩:=val_bool hv10
    have hC80:=hC79.pushL hB22 (Bs:=[Ag v25 x58.1]) (Fs:=[F7]) ⟨F7,_,z,hv9,z⟩ (by simpa using hn5) (fun b h=>hb5 b (by simpa using h))
    obtain ⟨v27,rfl,hC81⟩:=st49_own hC80
    refine Ae z z<|Bn z z z<|Bn z z z<|Aj (cs':=[(I x58.1.1.1),v27,(I x58.1.2.1),(I x58.1.2.2)]) (new:=[(I x58.1.1.1),v27,(I x58.1.2.1),(I x58.1.2.2)]) hC81 8 z z (fac z<|fac (AT (hC81.ro 0 z))<|fac z<|fac z<|fa0) z AC z z fun w35 hC82 hKp12=>?_
    try dsimp only [List.set] at hC82
    refine Ab (BF (AW (B4 ?_)))
    have hC83:=hC82.triv (nil_val (α:=(Int × (List Int))))
    have hC84:=hC83.f15
    have hC85:=hC84.f15
    have hC86:=hC85.f15
    have hC87:=hC86.f15
    have hC88:=hC87.f15
    have hC89:=hC88.f6
    have hC90:=hC89.f14
    have hC91:=hC90.f14
    have hC92:=hC91.f8
    have hC93:=hC92.f13
    have hC94:=hC93.f13
    have hC95:=hC94.h11
    exact Ay (l':=[(0,u1),(1,u2),(4,(I a5)),(5,v13),(6,(I a7)),(10,(ptr b2 0)),(14,(ptr b3 0)),(15,(ptr b4 0)),(16,(ptr b5 0)),(17,(ptr b6 0)),(19,(ptr b7 0))]) ⟨z,z,z,z,z,z,z,z,z,z,z,Ak⟩<|⟨k1,AO _,(.slice none 0 0),[],x14,w64 (x15+1),w64 (x16+1),x17,x58.1.1.1,v27,x58.1.1.2,x58.1.2.1,x58.1.2.2,v10,x22,x23,v11,x24,x25,v12,x26,x27,x28,x29,x30,v13,x31,z,hC95,h1,hL1⟩
   replace hL1:=AE hL1 hc4
   refine AM<|Av<|Ad<|fd AF AG z z z z<|Aq hC62 6 z z Bk z z<|Ae z z<|be hL1 fun x59 hx1 hL1=>have hC97:=hC62.f2;BA hC97 4 z Ah ty29 z hx1 z z z fun v28 w36 hC96=>?_
   try dsimp only [List.set] at hC96
   refine fd AF AG z z z z<|Bc (cs':=[v28,(I x14),(I (w64 (x15+1))),(I x16),(.bool x17)]) hC96 5 z z (AT (hC96.ro 4 z)) z AG z z fun w37 hC98 hKp13=>?_
   try dsimp only [List.set] at hC98
   refine Ab<|Ad<|At [(I x50.2.1.1.1),v22,(I x50.2.1.2.1),(I x50.2.1.2.2)] hC98 0 z z z Bp AC z z<|Aj (cs':=[(I x50.2.1.1.1),v22,(I x50.2.1.2.1),(I x50.2.1.2.2)]) (new:=[(I x50.2.1.1.1),v22,(I x50.2.1.2.1),(I x50.2.1.2.2)]) hC98 6 z z (fac z<|fac (AT (hC98.ro 1 z))<|fac z<|fac z<|fa0) z AC z z fun w38 hC99 hKp14=>?_
   try dsimp only [List.set] at hC99
   refine Ab<|AA<|Ad<|Ae z z<|BP z z z<|Ab<|AL z (fun hc6=>?_) (fun hc6=>?_)
   ·replace hL1:=AD hL1 hc6
    refine be hL1 fun r5 hr11 hL1=>BL (fun l w=>∃v29:Value,∃x60:(List (Int × (List Int))),∃x61:Int,∃x62:Int,∃x63:Int,∃x64:Bool,(x60,x61,x62,x63,x64)=r5∧l=[(14,(ptr b3 0)),(15,(ptr b4 0)),(16,(ptr b5 0)),(19,(ptr b7 0))]∧Ctx [] w0 w [Ag v12 (x26:(List (Int × (List Int)))),Ag v11 (x24:(List (Int × (List Int)))),Ag v29 (x60:(List (Int × (List Int)))),Ac b7 [v29,(I x61),(I x62),(I x63),(.bool x64)],Ac b5 [v10,(I x23)],Ag v10 (x22:(List (Int × (List Int)))),Ac b4 [v11,(I x25)],Ac b3 [v12,(I x27),(I x28),(I x29),(.bool x30)]]) ?_ ?_
    ·refine W_drawn 6 z hmix fun w40 hB24=>have hC101:=hC99.grow hB24;tf 0 A5 Ax z z z z z<|tf 2 AF BG z z z z z<|Ci (i:=1) (j:=3) (by kernel_rfl) z z ?_ ?_
     ·refine Aq hC101 8 z z A6 z z<|Ab<|oe 3 z<|Bc (cs':=[v28,(I x14),(I (w64 (x15+1))),(I x16),(.bool true)]) hC101 5 z z z z BG z z fun w41 hC102 hKp15=>?_
      try dsimp only [List.set] at hC102
      refine Ab<|tf 4 AF Ax z z z z z<|oe 5 z<|Bc (cs':=[v28,(I x23),(I (w64 (x15+1))),(I x16),(.bool true)]) hC102 5 z z z z Ax z z fun w42 hC103 hKp16=>?_
      try dsimp only [List.set] at hC103
      refine Ab<|dn<|?_
      obtain rfl:=Aa hr11
      have hC104:=hC103.f11
      have hC105:=hC104.f11
      have hC106:=hC105.f11
      have hC107:=hC106.f11
      have hC108:=hC107.f9
      have hC109:=hC108.f9
      have hC110:=hC109.f9
      have hC111:=hC110.f9
      have hC112:=hC111.h8
      exact Ay (l':=[(14,(ptr b3 0)),(15,(ptr b4 0)),(16,(ptr b5 0)),(19,(ptr b7 0))]) ⟨z,z,z,z,Ak⟩<|⟨v28,x59,x23,w64 (x15+1),x16,true,z,z,hC112⟩
     refine Bc (cs':=[v28,(I x14),(I (w64 (x15+1))),(I x16),(.bool true)]) hC101 5 z z z z BG z z (fun w41 hC102 hKp15=>?_)
     try dsimp only [List.set] at hC102
     refine Ab<|oe 1 z<|Aq hC102 8 z z A6 z z<|Ab<|tf 4 AF Ax z z z z z<|oe 5 z<|Bc (cs':=[v28,(I x23),(I (w64 (x15+1))),(I x16),(.bool true)]) hC102 5 z z z z Ax z z fun w42 hC103 hKp16=>?_
     try dsimp only [List.set] at hC103
     refine Ab<|dn<|?_
     obtain rfl:=Aa hr11
     have hC104:=hC103.f11
     have hC105:=hC104.f11
     have hC106:=hC105.f11
     have hC107:=hC106.f11
     have hC108:=hC107.f9
     have hC109:=hC108.f9
     have hC110:=hC109.f9
     have hC111:=hC110.f9
     have hC112:=hC111.h8
     exact Ay (l':=[(14,(ptr b3 0)),(15,(ptr b4 0)),(16,(ptr b5 0)),(19,(ptr b7 0))]) ⟨z,z,z,z,Ak⟩<|⟨v28,x59,x23,w64 (x15+1),x16,true,z,z,hC112⟩
    rintro _ w39 ⟨v29,x60,x61,x62,x63,x64,rfl,rfl,hC100⟩
    try dsimp only at hL1
    refine be hL1 fun r6 hr12 hL1=>BL (fun l w=>∃v30:Value,∃x65:(List (Int × (List Int))),∃x66:Int,∃v31:Value,∃x67:(List (Int × (List Int))),∃x68:Int,∃x69:Int,∃x70:Int,∃x71:Bool,(x65,x66,x67,x68,x69,x70,x71)=r6∧l=[(14,(ptr b3 0)),(15,(ptr b4 0))]∧Ctx [] w0 w [Ag v31 (x67:(List (Int × (List Int)))),Ag v30 (x65:(List (Int × (List Int)))),Ac b4 [v30,(I x66)],Ac b3 [v31,(I x68),(I x69),(I x70),(.bool x71)]]) ?_ ?_
    ·refine W_drawn 4 z hmix fun w44 hB26=>have hC114:=hC100.grow hB26;wAS (l':=[(14,(ptr b3 0)),(15,(ptr b4 0)),(16,(ptr b5 0)),(19,(ptr b7 0))]) ⟨z,z,z,z,Ak⟩<|C6 [⟨0,[],fun vs=>AR (.agg #[v29,(I x61),(I x62),(I x63),(.bool x64)]),[]⟩,⟨1,[],fun vs=>AR (.agg #[v10,(I x23)]),[]⟩] [[],[]] [1] 2 z (by kernel_rfl) (by kernel_rfl) ?_ ⟨?_,?_,Ak⟩
     ·refine Am z ?_ ?_
      ·intro w45 hB27
       refine Aw<|⟨_,z,?_⟩
       exact At [v29,(I x61),(I x62),(I x63),(.bool x64)] (hC114.grow hB27) 3 z z z BT Bj z z<|Ab<|A0 (An _ _) z z ⟨z,z⟩
      refine Am z ?_ ?_
      ·intro w45 hB27
       refine Aw<|⟨_,z,?_⟩
       exact At [v10,(I x23)] (hC114.grow hB27) 4 z z z A8 Az z z<|Ab<|A0 (An _ _) z z ⟨z,z⟩
      exact Ba
     ·intro g' hg'
      obtain rfl:g'=2:=hg'
      intro w46 hB28
      refine Au z z z ?_
      rintro _ _ ⟨rfl,rfl⟩
      refine Au z z z ?_
      rintro _ _ ⟨rfl,rfl⟩
      refine Bh fun hn6 hb6=>have hC115:=hC114.grow hB28;oe 2 z<|Aj (cs':=[v29,(I x61),(I x62),(I x63),(.bool x64)]) (new:=[v29,(I x61),(I x62),(I x63),(.bool x64)]) hC115 7 z z (fac (AT (hC115.ro 2 z))<|fac z<|fac z<|fac z<|fac z<|fa0) z Bj z z fun w47 hC116 hKp17=>?_
      try dsimp only [List.set] at hC116
      refine Ab<|oe 3 z<|Aj (cs':=[v10,(I x23)]) (new:=[v10,(I x23)]) hC116 6 z z (fac (AT (hC116.ro 5 z))<|fac z<|fa0) z Az z z fun w48 hC117 hKp18=>?_
      try dsimp only [List.set] at hC117
      refine Ab<|dn<|?_
      obtain rfl:=Aa hr12
      have hC118:=hC117.f7
      have hC119:=hC118.f7
      have hC120:=hC119.f7
      have hC121:=hC120.f5
      have hC122:=hC121.h4
      exact Ay (l':=[(14,(ptr b3 0)),(15,(ptr b4 0))]) ⟨z,z,Ak⟩<|⟨v10,x22,x23,v29,x60,x61,x62,x63,x64,z,z,hC122⟩
     intro g' hg'
     obtain rfl:g'=3:=hg'
     intro w46 hB28
     refine Au z z z ?_
     rintro _ _ ⟨rfl,rfl⟩
     refine Bh fun hn6 hb6=>have hC115:=hC114.grow hB28;Ci (i:=1) (j:=2) (by kernel_rfl) z z ?_ ?_
     ·refine At [v10,(I x23)] hC115 4 z z z A8 Az z z<|Ab<|oe 2 z<|Aj (cs':=[v29,(I x61),(I x62),(I x63),(.bool x64)]) (new:=[v29,(I x61),(I x62),(I x63),(.bool x64)]) hC115 7 z z (fac (AT (hC115.ro 2 z))<|fac z<|fac z<|fac z<|fac z<|fa0) z Bj z z fun w47 hC116 hKp17=>?_
      try dsimp only [List.set] at hC116
      refine Ab<|oe 3 z<|Aj (cs':=[v10,(I x23)]) (new:=[v10,(I x23)]) hC116 6 z z (fac (AT (hC116.ro 5 z))<|fac z<|fa0) z Az z z fun w48 hC117 hKp18=>?_
      try dsimp only [List.set] at hC117
      refine Ab<|dn<|?_
      obtain rfl:=Aa hr12
      have hC118:=hC117.f7
      have hC119:=hC118.f7
      have hC120:=hC119.f7
      have hC121:=hC120.f5
      have hC122:=hC121.h4
      exact Ay (l':=[(14,(ptr b3 0)),(15,(ptr b4 0))]) ⟨z,z,Ak⟩<|⟨v10,x22,x23,v29,x60,x61,x62,x63,x64,z,z,hC122⟩
     refine Aj (cs':=[v29,(I x61),(I x62),(I x63),(.bool x64)]) (new:=[v29,(I x61),(I x62),(I x63),(.bool x64)]) hC115 7 z z (fac (AT (hC115.ro 2 z))<|fac z<|fac z<|fac z<|fac z<|fa0) z Bj z z (fun w47 hC116 hKp17=>?_)
     try dsimp only [List.set] at hC116
     refine Ab<|oe 1 z<|At [v10,(I x23)] hC116 4 z z z A8 Az z z<|Ab<|oe 3 z<|Aj (cs':=[v10,(I x23)]) (new:=[v10,(I x23)]) hC116 6 z z (fac (AT (hC116.ro 5 z))<|fac z<|fa0) z Az z z fun w48 hC117 hKp18=>?_
     try dsimp only [List.set] at hC117
     refine Ab<|dn<|?_
     obtain rfl:=Aa hr12
     have hC118:=hC117.f7
     have hC119:=hC118.f7
     have hC120:=hC119.f7
     have hC121:=hC120.f5
     have hC122:=hC121.h4
     exact Ay (l':=[(14,(ptr b3 0)),(15,(ptr b4 0))]) ⟨z,z,Ak⟩<|⟨v10,x22,x23,v29,x60,x61,x62,x63,x64,z,z,hC122⟩
    rintro _ w43 ⟨v30,x65,x66,v31,x67,x68,x69,x70,x71,rfl,rfl,hC113⟩
    try dsimp only at hL1
    refine AK (A2 (Bu (A2 (Bu (A2 ?_)))))
    obtain rfl:=Aa hL1
    dsimp only at hF
    obtain rfl:=Aa hF
    refine BZ z (rv_cell_agg (cs':=[v31,(I x68),(I x69),(I x70),(.bool x71)]) hC113 (i:=3) z z z BT Bj z) (rv_cell_agg (cs':=[v30,(I x66)]) hC113 (i:=2) z z z A8 Az z)<|have hC124:=hC113.f1;?_
    have hC123:=Cb v30 x65 x66 hC124
    have hC126:=hC123.f1
    have hC125:=CM v31 x67 x68 x69 x70 x71 hC126
    exact ⟨_,z,res2_of hC125⟩
   replace hL1:=AE hL1 hc6
   refine AM<|Av<|Ad<|Ae z z<|Bo BI h1 z z<|Cr z z z<|Ab<|be hL1 fun r7 hr13 hL1=>Bx (fun l w=>∃v32:Value,∃x72:(List (Int × (List Int))),∃x73:Int,∃v33:Value,∃x74:(List (Bool × (Int × (List Int)))),(x72,x73,x74)=r7∧l=[(0,u1),(1,u2),(4,(I a5)),(5,v33),(6,(I a7)),(10,(ptr b2 0)),(14,(ptr b3 0)),(15,(ptr b4 0)),(16,(ptr b5 0)),(17,(ptr b6 0)),(19,(ptr b7 0))]∧Ctx [] w0 w [Ag v22 (x50.2.1.1.2:(List Int)),Ag v12 (x26:(List (Int × (List Int)))),Ag v11 (x24:(List (Int × (List Int)))),Ag v28 (x59:(List (Int × (List Int)))),Ac b7 [v28,(I x14),(I (w64 (x15+1))),(I x16),(.bool x17)],Ac b6 [(I x50.2.1.1.1),v22,(I x50.2.1.2.1),(I x50.2.1.2.2)],Ac b5 [v32,(I x73)],Ag v32 (x72:(List (Int × (List Int)))),Ac b4 [v11,(I x25)],Ac b3 [v12,(I x27),(I x28),(I x29),(.bool x30)],Ac b2 [(I a4.1),u4]]∧RO [] w0 v33 x74) ?_ ?_
   ·refine AL z (fun hc7=>?_) (fun hc7=>?_)
    ·replace hr13:=AD hr13 hc7
     refine AA<|W_drawn 10 z hmix fun w50 hB30=>have hC128:=hC99.grow hB30;tm 0 z z z<|tm 2 z z z<|be hr13 fun x75 hx2 hr13=>tk 3 z z (BK BI ty31 h1 hx2 z z)<|AZ BI ty31 h1 hx2 z z z fun b9 o1 h3=>Ab<|wAS (l':=[(0,u1),(1,u2),(4,(I a5)),(5,v13),(6,(I a7)),(10,(ptr b2 0)),(14,(ptr b3 0)),(15,(ptr b4 0)),(16,(ptr b5 0)),(17,(ptr b6 0)),(19,(ptr b7 0)),(20,v19),(21,(ptr b8 0)),(22,(I x50.2.2)),(48,(.tuple #[v19,(.agg #[(I x50.2.1.1.1),v22,(I x50.2.1.2.1),(I x50.2.1.2.2)]),(I x50.2.2)])),(49,u1),(50,u2),(51,(.agg #[v10,(I x23)])),(52,(.agg #[(I x18),v9,(I x20),(I x21)])),(53,(I a5)),(54,(.tuple #[v19,(.agg #[(I x50.2.1.1.1),v22,(I x50.2.1.2.1),(I x50.2.1.2.2)]),(I x50.2.2)])),(55,v19),(56,(.agg #[(I x50.2.1.1.1),v22,(I x50.2.1.2.1),(I x50.2.1.2.2)])),(57,(I x50.2.2)),(58,(ptr b7 2)),(59,(I x15)),(60,(I (w64 (x15+1)))),(61,(ptr b7 2)),(62,(I x50.2.2)),(63,(.bool (decide (x50.2.2=2)))),(83,(ptr b7 0)),(84,v8),(85,v19),(86,v28),(87,(ptr b7 0)),(88,(.agg #[(I x50.2.1.1.1),v22,(I x50.2.1.2.1),(I x50.2.1.2.2)])),(89,(I x50.2.2)),(90,(.bool (decide (x50.2.2=1)))),(97,v13),(98,(I (List.length x31:Int))),(99,(.bool (decide (0 < (List.length x31:Int))))),(101,u1),(103,v13),(104,(ptr b9 o1))]) ⟨z,z,z,z,z,z,z,z,z,z,z,z,z,z,z,z,z,z,z,z,z,z,z,z,z,z,z,z,z,z,z,z,z,z,z,z,z,z,z,z,z,z,z,z,Ak⟩<|Bq [⟨1,[],fun vs=>AR (.agg #[v10,(I x23)]),[]⟩,⟨4,[],fun vs=>Cs [] w0 x75,[]⟩] [[],[]] 5 z (by kernel_rfl) (by kernel_rfl) z ?_ ?_
     ·refine Am z ?_ ?_
      ·intro w51 hB31
       refine Aw<|⟨_,z,?_⟩
       exact At [v10,(I x23)] (hC128.grow hB31) 8 z z z A8 Az z z<|Ab<|A0 (An _ _) z z ⟨z,z⟩
      refine Am z ?_ ?_
      ·intro w51 hB31
       refine Aw<|⟨_,z,?_⟩
       exact Be ty31 h3 (hC128.keep.then hB31) z z fun v36 h6=>Ab<|A0 (An _ _) z z ⟨z,h6⟩
      exact Ba
     intro w52 hB32
     refine Au z z z ?_
     rintro _ _ ⟨rfl,rfl⟩
     refine Au z z z ?_
     rintro v36 _ ⟨rfl,h6⟩
     obtain ⟨v35,rfl,h5⟩:=ro_st31 h6
     refine Bh fun hn7 hb7=>have hC129:=hC128.grow hB32;be hr13 fun x76 hr14 hr13=>oe 5 z<|AJ Tryz.call7 z z (c_M_ApplyChange a1 u1 (g1.now hC129.keep) (x22,x23) v10 ((hC129.ro 9 z).now (B5 _ _)) x75 v35 (h5.now hC129.keep) x76 hr14)<|?_
     rintro _ w53 ⟨hB33,v37,v38,F9,F10,rfl,hv11,hv12,hn8,hb8⟩
     obtain ⟨rfl,rfl⟩:=val_bool hv12
     have hC130:=hC129.pushL hB33 (Bs:=[Ag v37 x76.1]) (Fs:=[F9]) ⟨F9,_,z,hv11,z⟩ (by simpa using hn8) (fun b h=>hb8 b (by simpa using h))
     obtain ⟨v39,rfl,hC131⟩:=st27_own hC130
     refine Ab<|tm 6 z z z<|tk 7 z z (CA z z)<|Bn z z z<|Ab<|tk 8 z z (CA z z)<|Bn z z z<|Ab<|oe 9 z<|Aj (cs':=[v39,(I x76.1.2)]) (new:=[v39,(I x76.1.2)]) hC131 9 z z (fac (AT (hC131.ro 0 z))<|fac z<|fa0) z Az z z fun w54 hC132 hKp19=>?_
     try dsimp only [List.set] at hC132
     refine Ab<|dn<|Av<|Bt<|Ae z z<|be hr13 fun x77 hx3 hr13=>WL_slice_l BI ty31 h1 hx3 z z z fun v40 h7=>Af z z<|Ab<|?_
     obtain rfl:=Aa hr13
     have hC133:=hC132.f13
     have hC134:=hC133.f13
     have hC135:=hC134.f13
     have hC136:=hC135.f3
     have hC137:=hC136.f12
     have hC138:=hC137.f11
     have hC139:=hC138.f11
     have hC140:=hC139.f11
     have hC141:=hC140.f11
     have hC142:=hC141.f11
     have hC143:=hC142.f11
     have hC144:=hC143.h11
     exact Ay (l':=[(0,u1),(1,u2),(4,(I a5)),(5,v40),(6,(I a7)),(10,(ptr b2 0)),(14,(ptr b3 0)),(15,(ptr b4 0)),(16,(ptr b5 0)),(17,(ptr b6 0)),(19,(ptr b7 0))]) ⟨z,z,z,z,z,z,z,z,z,z,z,Ak⟩<|⟨v39,x76.1.1,x76.1.2,v40,x77,z,z,hC144,h7⟩
    replace hr13:=AE hr13 hc7
    refine AM ?_
    obtain rfl:=Aa hr13
    have hC145:=hC99.f12
    have hC146:=hC145.f12
    have hC147:=hC146.f12
    have hC148:=hC147.f12
    have hC149:=hC148.f12
    have hC150:=hC149.f11
    have hC151:=hC150.f11
    have hC152:=hC151.f11
    have hC153:=hC152.f11
    have hC154:=hC153.f11
    have hC155:=hC154.f11
    have hC156:=hC155.h11
    exact Ay (l':=[(0,u1),(1,u2),(4,(I a5)),(5,v13),(6,(I a7)),(10,(ptr b2 0)),(14,(ptr b3 0)),(15,(ptr b4 0)),(16,(ptr b5 0)),(17,(ptr b6 0)),(19,(ptr b7 0))]) ⟨z,z,z,z,z,z,z,z,z,z,z,Ak⟩<|⟨v10,x22,x23,v13,x31,z,z,hC156,h1⟩
   rintro l7 _ w49 hs7 ⟨v32,x72,x73,v33,x74,rfl,rfl,hC127,h2⟩
   try dsimp only at hL1
   exact Bg<|have hC157:=hC127.f10;have hC158:=hC157.f10;have hC159:=hC158.f10;have hC160:=hC159.f10;have hC161:=hC160.f10;have hC162:=hC161.f5;have hC163:=hC162.f10;have hC164:=hC163.f10;have hC165:=hC164.f10;have hC166:=hC165.f10;have hC167:=hC166.f10;Cn (l2:=[(0,u1),(1,u2),(4,(I a5)),(5,v33),(6,(I a7)),(10,(ptr b2 0)),(14,(ptr b3 0)),(15,(ptr b4 0)),(16,(ptr b5 0)),(17,(ptr b6 0)),(19,(ptr b7 0))]) hs7 ⟨z,z,z,z,z,z,z,z,z,z,z,Ak⟩<|⟨k1,AO _,v28,x59,x14,w64 (x15+1),x16,x17,x50.2.1.1.1,v22,x50.2.1.1.2,x50.2.1.2.1,x50.2.1.2.2,v32,x72,x73,v11,x24,x25,v12,x26,x27,x28,x29,x30,v33,x74,z,hC167,h2,hL1⟩
 intro _ _ _ _ h; cases h
theorem c_S_IsFact {w0:World} (a1:(List Int)) (u1:Value) (g1:RO [] w0 u1 a1) (a2:(Int × (List Int))) (u2:Value) (g2:RO [] w0 u2 a2.2) (rr:Bool) (hF:S.IsFact a1 a2=some rr) :
 Calls Tryz.prog 40 [u1,(.agg #[(I a2.1),u2])].toArray w0 fun e w'=>∃v,e=.returned v∧Res w0 rr v w':=by
 refine A3 Tryz.func40 z z ?_
 have hC0:=AH w0
 unfold S.IsFact at hF
 refine Ad<|Bz (cs:=[(I a2.1),u2]) hC0 z z z fun b1 w1 hC1 hB1 hN1=>Af z z<|Ab<|AA<|be hF fun r1 hr1 hF=>BL (fun l w=>∃x1:Bool,x1=r1∧l=[(3,(ptr b1 0)),(28,(.bool x1))]∧Below w1.heap.size w1 w∧Ctx [] w0 w [Ac b1 [(I a2.1),u2]]) ?_ ?_
 ·refine W_drawn 23 z hmix fun w3 hB3=>have hC3:=hC1.grow hB3;tm 0 z z z<|be hr1 fun x2 hr2 hr1=>oe 1 z<|cb Cm z z (c_S_IsSchema a1 u1 (g1.now hC3.keep) x2 hr2) fun w4 hB4=>have hC4:=hC3.grow hB4;Ab<|tk 2 z z (CG z)<|B2 z z<|Ab<|tm 3 z z z<|BO (fun hc1=>?_) (fun hc1=>?_)
  ·replace hr1:=AD hr1 hc1
   refine sk 4 z z z z z<|sk 5 z z z z z<|sk 6 z z z z z<|sk 7 z z z z z<|sk 8 z z z z z<|sk 9 z z z z z<|sk 10 z z z z z<|tp 11 z z z z<|tm 12 z z z<|sk 13 z z z z z<|sk 14 z z z z z<|sk 15 z z z z z<|sk 16 z z z z z<|sk 17 z z z z z<|sk 18 z z z z z<|sk 19 z z z z z<|sk 20 z z z z z<|sk 21 z z z z z<|tp 22 z z z z<|dn<|?_
   obtain rfl:=Aa hr1
   exact Ay (l':=[(3,(ptr b1 0)),(28,(.bool true))]) ⟨z,z,Ak⟩<|⟨true,z,z,((Al hB3).then hB4).below,hC4⟩
  replace hr1:=AE hr1 hc1
  refine tg 4 z z z z (BB A1 z z (fun w=>⟨_,Ax w⟩) z)<|Ai z z<|fd A1 Ax z z z z<|Ab<|tn 6 z z z z z<|tg 7 z z z z (CO Ap g1 z)<|Ai z z<|Bo Ap g1 z z<|Ab<|tg 8 z z z z (Cz z z)<|Ai z z<|BV z z z<|Ab<|oe 5 z<|Ai z z<|Aq hC4 0 z z A6 z z<|Ab<|be hr1 fun x3 hr3 hr1=>oe 9 z<|Ai z z<|cb B9 z z (c_S_l1In a2.1 0 (w64 ((List.length a1:Int) - 1)) x3 hr3) fun w5 hB5=>have hC5:=hC4.grow hB5;Ab<|tg 10 z z z z (CG z)<|Ai z z<|B2 z z<|Ab<|tq 11 z z z z<|tm 12 z z z<|BO (fun hc2=>?_) (fun hc2=>?_)
  ·replace hr1:=AD hr1 hc2
   refine sk 13 z z z z z<|sk 14 z z z z z<|sk 15 z z z z z<|sk 16 z z z z z<|sk 17 z z z z z<|sk 18 z z z z z<|sk 19 z z z z z<|sk 20 z z z z z<|sk 21 z z z z z<|tp 22 z z z z<|dn<|?_
   obtain rfl:=Aa hr1
   exact Ay (l':=[(3,(ptr b1 0)),(28,(.bool true))]) ⟨z,z,Ak⟩<|⟨true,z,z,(((Al hB3).then hB4).then hB5).below,hC5⟩
  replace hr1:=AE hr1 hc2
  refine tg 13 z z z z (BB A1 z z (fun w=>⟨_,A4 w⟩) z)<|Ai z z<|fd A1 A4 z z z z<|Ab<|tn 16 z z z z z<|tg 17 z z z z (BB A1 z z (fun w=>⟨_,Ax w⟩) z)<|Ai z z<|fd A1 Ax z z z z<|Ab<|be hr1 fun x4 hx1 hr1=>wAS (l':=[(0,u1),(1,(.agg #[(I a2.1),u2])),(3,(ptr b1 0)),(4,(.bool false)),(6,u1),(7,(.bool x2)),(8,(.bool (!x2))),(9,(.bool false)),(10,(ptr b1 0)),(11,(I a2.1)),(12,u1),(13,(I (List.length a1:Int))),(14,(I (w64 ((List.length a1:Int) - 1)))),(15,(.bool x3)),(16,(.bool (!x3))),(17,(.bool (!x3))),(18,(.bool false)),(19,(ptr b1 1)),(22,u1),(23,(ptr b1 0))]) ⟨z,z,z,z,z,z,z,z,z,z,z,z,z,z,z,z,z,z,z,z,Ak⟩<|Bq [⟨14,[],fun vs=>AR u2,[]⟩,⟨15,[],fun vs=>AR (I (List.length a2.2:Int)),[]⟩,⟨18,[],fun vs=>AR (I a2.1),[]⟩,⟨19,[],fun vs=>Cc [] w0 x4,[]⟩,⟨20,[],fun vs=>AR (I x4),[]⟩] [[],[14],[],[18],[19]] 2 z (by kernel_rfl) (by kernel_rfl) z ?_ ?_
  ·refine Am z ?_ ?_
   ·intro w6 hB6
    refine Aw<|⟨_,z,?_⟩
    exact Ai z z<|Aq (hC5.grow hB6) 0 z z AU z z<|Ab<|A0 (An _ _) z z ⟨z,z⟩
   refine Am z ?_ ?_
   ·intro w6 hB6
    refine A7 z z z ?_
    rintro _ _ ⟨rfl,rfl⟩ _
    refine Aw<|⟨_,z,?_⟩
    exact Ai z z<|Bo Ap g2 z z<|Ab<|A0 (An _ _) z z ⟨z,z⟩
   refine Am z ?_ ?_
   ·intro w6 hB6
    refine Aw<|⟨_,z,?_⟩
    exact Ai z z<|Aq (hC5.grow hB6) 0 z z A6 z z<|Ab<|A0 (An _ _) z z ⟨z,z⟩
   refine Am z ?_ ?_
   ·intro w6 hB6
    refine A7 z z z ?_
    rintro _ _ ⟨rfl,rfl⟩ _
    refine Aw<|⟨_,z,?_⟩
    exact Ai z z<|AZ Ap ty3 g1 hx1 z z z fun b2 o1 h1=>Ab<|A0 (An _ _) z z ⟨z,_,_,z,h1⟩
   refine Am z ?_ ?_
   ·intro w6 hB6
    refine A7 z z z ?_
    rintro _ _ ⟨rfl,b2,o1,rfl,h1⟩ _
    refine Aw<|⟨_,z,?_⟩
    refine Ai z z<|Be ty3 h1 (hC5.keep.then hB6) z z fun v1 h2=>?_
    obtain rfl:=BJ h2
    exact Ab<|A0 (An _ _) z z ⟨z,z⟩
   exact Ba
  intro w7 hB7
  refine Au z z z ?_
  rintro _ _ ⟨rfl,rfl⟩
  refine Au z z z ?_
  rintro _ _ ⟨rfl,rfl⟩
  refine Au z z z ?_
  rintro _ _ ⟨rfl,rfl⟩
  refine Au z z z ?_
  rintro _ _ ⟨rfl,b2,o1,rfl,h1⟩
  refine Au z z z ?_
  rintro _ _ ⟨rfl,rfl⟩
  refine Bh fun hn1 hb1=>have hC6:=hC5.grow hB7;tg 21 z z z z (fl_neq z z)<|Ai z z<|Cl z z z<|Ab<|tq 22 z z z z<|dn<|?_
  obtain rfl:=Aa hr1
  exact Ay (l':=[(3,(ptr b1 0)),(28,(.bool (!decide ((List.length a2.2:Int)=x4))))]) ⟨z,z,Ak⟩<|⟨(!decide ((List.length a2.2:Int)=x4)),z,z,((((Al hB3).then hB4).then hB5).then hB7).below,hC6⟩
 rintro _ w2 ⟨x1,rfl,rfl,hB2,hC2⟩
 try dsimp only at hF
 refine AL z (fun hc3=>?_) (fun hc3=>?_)
 ·replace hF:=AD hF hc3
  refine Ad<|Af z z<|Ab<|AK<|A2<|?_
  obtain rfl:=Aa hF
  exact AB z z<|⟨_,z,Bf hC2 _⟩
 replace hF:=AE hF hc3
 refine AM<|Av<|AA<|Ad<|Af z z<|Ab<|be hF fun r2 hr4 hF=>Bx (fun l w=>.inl ()=r2∧l=[]∧Below w2.heap.size w2 w∧Ctx [] w0 w []) ?_ ?_
 ·refine Bb<|wS (l':=[(3,(ptr b1 0)),(5,(I 0))]) ⟨z,z,Ak⟩<|BE (fun k l w=>∃x5:Int,l=[(3,(ptr b1 0)),(5,(I x5))]∧Below w2.heap.size w2 w∧Ctx [] w0 w [Ac b1 [(I a2.1),u2]]∧S.IsFact_l1 a2 k x5=some r2) FUEL ⟨0,z,(An _ _),hC2,hr4⟩<|?_
  clear hr4
  rintro k1 _ w9 ⟨x5,rfl,hB8,hC7,hL1⟩
  cases k1 with
  | zero=>rw [S.IsFact_l1] at hL1; cases hL1
  | succ k1 =>
   rw [S.IsFact_l1] at hL1
   refine AA<|Ad<|Ae z z<|fd A1 A4 z z z z<|Aq hC7 0 z z AU z z<|Bo Ap g2 z z<|B8 z z z<|Ab<|AL z (fun hc4=>?_) (fun hc4=>?_)
   ·replace hL1:=AD hL1 hc4
    refine AM<|Av<|AA<|Bb<|Ad<|fd A1 A4 z z z z<|Aq hC7 0 z z AU z z<|Ae z z<|be hL1 fun x6 hx2 hL1=>AZ Ap ty3 g2 hx2 z z z fun b3 o2 h3=>Be ty3 h3 hC7.keep z z fun v2 h4=>?_
    obtain rfl:=BJ h4
    refine be hL1 fun x7 hr5 hL1=>cb B9 z z (c_S_l1In x6 0 9 x7 hr5) fun w10 hB9=>have hC8:=hC7.grow hB9;B2 z z<|Ab<|AL z (fun hc5=>?_) (fun hc5=>?_)
    ·replace hL1:=AD hL1 hc5
     refine Ad<|Af z z<|Ab<|AK<|Bu<|A2<|A2<|Bu<|A2<|A2<|?_
     obtain rfl:=Aa hL1
     dsimp only at hF
     obtain rfl:=Aa hF
     exact AB z z<|⟨_,z,Bf hC8 _⟩
    replace hL1:=AE hL1 hc5
    exact AM<|Bg<|Av<|Bt<|Ae z z<|Bw z z z<|Af z z<|Ab<|Ay (l':=[(3,(ptr b1 0)),(5,(I (w64 (x5+1))))]) ⟨z,z,Ak⟩<|⟨k1,AO _,w64 (x5+1),z,((Al hB8).then hB9).below,hC8,hL1⟩
   replace hL1:=AE hL1 hc4
   refine BF (AW (AW (B4 ?_)))
   obtain rfl:=Aa hL1
   have hC9:=hC7.h0
   exact Ay (l':=[]) Ak<|⟨z,z,(Al hB8).below,hC9⟩
 rintro l3 _ w11 hs3 ⟨rfl,rfl,hB10,hC10⟩
 try dsimp only at hF
 refine Bm hs3 ?_
 clear hs3
 refine Ad<|Af z z<|Ab<|AK<|?_
 obtain rfl:=Aa hF
 exact AB z z<|⟨_,z,Bf hC10 _⟩
theorem c_S_AreFacts {w0:World} (a1:(List Int)) (u1:Value) (g1:RO [] w0 u1 a1) (a2:(List (Int × (List Int)))) (u2:Value) (g2:RO [] w0 u2 a2) (rr:Bool) (hF:S.AreFacts a1 a2=some rr) :
 Calls Tryz.prog 46 [u1,u2].toArray w0 fun e w'=>∃v,e=.returned v∧Res w0 rr v w':=by
 refine A3 Tryz.func46 z z ?_
 have hC0:=AH w0
 unfold S.AreFacts at hF
 refine Ad<|Af z z<|Ab<|AA<|Ad<|Af z z<|Ab<|be hF fun r1 hr1 hF=>Bx (fun l w=>.inl ()=r1∧l=[(0,u1),(1,u2)]∧Below w0.heap.size w0 w∧Ctx [] w0 w []) ?_ ?_
 ·refine Bb<|wS (l':=[(0,u1),(1,u2),(5,(I 0))]) ⟨z,z,z,Ak⟩<|BE (fun k l w=>∃x1:Int,l=[(0,u1),(1,u2),(5,(I x1))]∧Below w0.heap.size w0 w∧Ctx [] w0 w []∧S.AreFacts_l1 a2 a1 k x1=some r1) FUEL ⟨0,z,(An _ _),hC0,hr1⟩<|?_
  clear hr1
  rintro k1 _ w1 ⟨x1,rfl,hB1,hC1,hL1⟩
  cases k1 with
  | zero=>rw [S.AreFacts_l1] at hL1; cases hL1
  | succ k1 =>
   rw [S.AreFacts_l1] at hL1
   refine AA<|Ad<|Ae z z<|Ae z z<|Bo Ah g2 z z<|B8 z z z<|Ab<|AL z (fun hc1=>?_) (fun hc1=>?_)
   ·replace hL1:=AD hL1 hc1
    refine AM<|Av<|AA<|Bb<|be hL1 fun r2 hr2 hL1=>BL (fun l w=>∃x2:Bool,x2=r2∧l=[(0,u1),(1,u2),(5,(I x1)),(35,(.bool x2))]∧Below w1.heap.size w1 w∧Ctx [] w0 w []) ?_ ?_
    ·refine W_drawn 24 z hmix fun w3 hB3=>have hC3:=hC1.grow hB3;tm 0 z z z<|tm 1 z z z<|tm 2 z z z<|be hr2 fun x3 hx1 hr2=>tk 3 z z (BK Ah ty29 g2 hx1 z z)<|AZ Ah ty29 g2 hx1 z z z fun b1 o1 h1=>Ab<|oe 4 z<|Be ty29 h1 hC3.keep z z fun v1 h2=>?_
     obtain ⟨v2,rfl,h3⟩:=BM h2
     refine Ab<|be hr2 fun x4 hr3 hr2=>oe 5 z<|cb Tryz.call40 z z (c_S_IsFact a1 u1 (g1.now hC3.keep) x3 v2 (h3.now hC3.keep) x4 hr3) fun w4 hB4=>have hC4:=hC3.grow hB4;Ab<|tk 6 z z (CG z)<|B2 z z<|Ab<|tm 7 z z z<|BO (fun hc2=>?_) (fun hc2=>?_)
     ·replace hr2:=AD hr2 hc2
      refine sk 8 z z z z z<|sk 9 z z z z z<|sk 10 z z z z z<|sk 11 z z z z z<|sk 12 z z z z z<|sk 13 z z z z z<|sk 14 z z z z z<|sk 15 z z z z z<|sk 16 z z z z z<|sk 17 z z z z z<|sk 18 z z z z z<|sk 19 z z z z z<|sk 20 z z z z z<|sk 21 z z z z z<|sk 22 z z z z z<|tp 23 z z z z<|dn<|?_
      obtain rfl:=Aa hr2
      exact Ay (l':=[(0,u1),(1,u2),(5,(I x1)),(35,(.bool true))]) ⟨z,z,z,z,Ak⟩<|⟨true,z,z,((Al hB3).then hB4).below,hC4⟩
     replace hr2:=AE hr2 hc2
     refine tn 8 z z z z z<|tg 9 z z z z (fl_gtr z z)<|Ai z z<|Cr z z z<|Ab<|tn 10 z z z z z<|BO (fun hc3=>?_) (fun hc3=>?_)
     ·replace hr2:=AD hr2 hc3
      refine tn 11 z z z z z<|tn 12 z z z z z<|tg 13 z z z z (Cz z z)<|Ai z z<|BV z z z<|Ab<|be hr2 fun x5 hx2 hr2=>tg 14 z z z z (BK Ah ty29 g2 hx2 z z)<|Ai z z<|AZ Ah ty29 g2 hx2 z z z fun b2 o2 h4=>Ab<|tn 16 z z z z z<|tn 17 z z z z z<|be hr2 fun x6 hx3 hr2=>tg 18 z z z z (BK Ah ty29 g2 hx3 z z)<|Ai z z<|AZ Ah ty29 g2 hx3 z z z fun b3 o3 h5=>Ab<|wAS (l':=[(0,u1),(1,u2),(5,(I x1)),(6,(I x1)),(7,u2),(8,(I (List.length a2:Int))),(9,(.bool (decide (x1 < (List.length a2:Int))))),(12,u1),(13,u2),(14,(I x1)),(15,(ptr b1 o1)),(16,(.agg #[(I x3.1),v2])),(17,(.bool x4)),(18,(.bool (!x4))),(19,(.bool false)),(20,(I x1)),(21,(.bool (decide (0 < x1)))),(22,(.bool true)),(23,u2),(24,(I x1)),(25,(I (w64 (x1 - 1)))),(26,(ptr b2 o2)),(28,u2),(29,(I x1)),(30,(ptr b3 o3))]) ⟨z,z,z,z,z,z,z,z,z,z,z,z,z,z,z,z,z,z,z,z,z,z,z,z,z,Ak⟩<|Bq [⟨15,[],fun vs=>Cs [] w0 x5,[]⟩,⟨19,[],fun vs=>Cs [] w0 x6,[]⟩] [[],[]] 4 z (by kernel_rfl) (by kernel_rfl) z ?_ ?_
      ·refine Am z ?_ ?_
       ·intro w5 hB5
        refine Aw<|⟨_,z,?_⟩
        exact Ai z z<|Be ty29 h4 (hC4.keep.then hB5) z z fun v5 h8=>Ab<|A0 (An _ _) z z ⟨z,h8⟩
       refine Am z ?_ ?_
       ·intro w5 hB5
        refine Aw<|⟨_,z,?_⟩
        exact Ai z z<|Be ty29 h5 (hC4.keep.then hB5) z z fun v8 h11=>Ab<|A0 (An _ _) z z ⟨z,h11⟩
       exact Ba
      intro w6 hB6
      refine Au z z z ?_
      rintro v5 _ ⟨rfl,h8⟩
      obtain ⟨v4,rfl,h7⟩:=BM h8
      refine Au z z z ?_
      rintro v8 _ ⟨rfl,h11⟩
      obtain ⟨v7,rfl,h10⟩:=BM h11
      refine Bh fun hn1 hb1=>have hC5:=hC4.grow hB6;be hr2 fun x7 hr4 hr2=>oe 20 z<|Ai z z<|ci CB z z (c_S_CompareFacts x5 v4 (h7.now hC5.keep) x6 v7 (h10.now hC5.keep) x7 hr4) fun w7 hB7=>have hC6:=hC5.grow hB7;Ab<|tg 21 z z z z (fl_geq z z)<|Ai z z<|Cu z z z<|Ab<|tg 22 z z z z (fl_pick_t z z)<|Ai z z<|AI z z z<|Ab<|tq 23 z z z z<|dn<|?_
      obtain rfl:=Aa hr2
      exact Ay (l':=[(0,u1),(1,u2),(5,(I x1)),(35,(.bool (decide (0 ≤ x7))))]) ⟨z,z,z,z,Ak⟩<|⟨(decide (0 ≤ x7)),z,z,((((Al hB3).then hB4).then hB6).then hB7).below,hC6⟩
     replace hr2:=AE hr2 hc3
     refine sk 11 z z z z z<|sk 12 z z z z z<|sk 13 z z z z z<|sk 14 z z z z z<|sk 15 z z z z z<|sk 16 z z z z z<|sk 17 z z z z z<|sk 18 z z z z z<|sk 19 z z z z z<|sk 20 z z z z z<|sk 21 z z z z z<|tg 22 z z z z (fl_pick_f z z)<|Ai z z<|AY z z z<|Ab<|tq 23 z z z z<|dn<|?_
     obtain rfl:=Aa hr2
     exact Ay (l':=[(0,u1),(1,u2),(5,(I x1)),(35,(.bool false))]) ⟨z,z,z,z,Ak⟩<|⟨false,z,z,((Al hB3).then hB4).below,hC4⟩
    rintro _ w2 ⟨x2,rfl,rfl,hB2,hC2⟩
    try dsimp only at hL1
    refine AL z (fun hc4=>?_) (fun hc4=>?_)
    ·replace hL1:=AD hL1 hc4
     refine Ad<|Af z z<|Ab<|AK<|Bu<|A2<|A2<|Bu<|A2<|A2<|?_
     obtain rfl:=Aa hL1
     dsimp only at hF
     obtain rfl:=Aa hF
     exact AB z z<|⟨_,z,Bf hC2 _⟩
    replace hL1:=AE hL1 hc4
    exact AM<|Bg<|Av<|Bt<|Ae z z<|Bw z z z<|Af z z<|Ab<|Ay (l':=[(0,u1),(1,u2),(5,(I (w64 (x1+1))))]) ⟨z,z,z,Ak⟩<|⟨k1,AO _,w64 (x1+1),z,((Al hB1).then hB2).below,hC2,hL1⟩
   replace hL1:=AE hL1 hc1
   refine BF (AW (AW (B4 ?_)))
   obtain rfl:=Aa hL1
   exact Ay (l':=[(0,u1),(1,u2)]) ⟨z,z,Ak⟩<|⟨z,z,(Al hB1).below,hC1⟩
 rintro l3 _ w9 hs3 ⟨rfl,rfl,hB8,hC7⟩
 try dsimp only at hF
 refine Bm hs3 ?_
 clear hs3
 refine be hF fun r3 hr5 hF=>BL (fun l w=>∃x8:Bool,x8=r3∧l=[(4,(.bool x8))]∧Below w9.heap.size w9 w∧Ctx [] w0 w []) ?_ ?_
 ·refine Bt<|Ae z z<|be hr5 fun x9 hr6 hr5=>cb Cm z z (c_S_IsSchema a1 u1 (g1.now hC7.keep) x9 hr6) fun w11 hB10=>have hC9:=hC7.grow hB10;Ae z z<|B3 (fun hc5=>?_) (fun hc5=>?_)
  ·replace hr5:=AD hr5 hc5
   refine Ai z z<|Ae z z<|Ai z z<|Bo Ah g2 z z<|Ai z z<|CE z z z<|AI z z z<|Af z z<|Ab<|?_
   obtain rfl:=Aa hr5
   exact Ay (l':=[(4,(.bool (decide ((List.length a2:Int) ≤ 24))))]) ⟨z,Ak⟩<|⟨(decide ((List.length a2:Int) ≤ 24)),z,z,(Al hB10).below,hC9⟩
  replace hr5:=AE hr5 hc5
  refine gs z z z z<|gs z z z z<|gs z z z z<|AY z z z<|Af z z<|Ab<|?_
  obtain rfl:=Aa hr5
  exact Ay (l':=[(4,(.bool false))]) ⟨z,Ak⟩<|⟨false,z,z,(Al hB10).below,hC9⟩
 rintro _ w10 ⟨x8,rfl,rfl,hB9,hC8⟩
 try dsimp only at hF
 refine AK ?_
 obtain rfl:=Aa hF
 exact AB z z<|⟨_,z,Bf hC8 _⟩
theorem c_S_IsSource {w0:World} (a1:(List Int)) (u1:Value) (g1:RO [] w0 u1 a1) (a2:((List (Int × (List Int))) × Int)) (u2:Value) (g2:RO [] w0 u2 a2.1) (rr:Bool) (hF:S.IsSource a1 a2=some rr) :
 Calls Tryz.prog 11 [u1,(.agg #[u2,(I a2.2)])].toArray w0 fun e w'=>∃v,e=.returned v∧Res w0 rr v w':=by
 refine A3 Tryz.func11 z z ?_
 have hC0:=AH w0
 unfold S.IsSource at hF
 refine Ad<|Bz (cs:=[u2,(I a2.2)]) hC0 z z z fun b1 w1 hC1 hB1 hN1=>Af z z<|Ab<|be hF fun r1 hr1 hF=>BL (fun l w=>∃x1:Bool,x1=r1∧l=[(4,(.bool x1))]∧Below w1.heap.size w1 w∧Ctx [] w0 w []) ?_ ?_
 ·refine Bt<|Ae z z<|fd A5 AG z z z z<|Aq hC1 0 z z Bk z z<|be hr1 fun x2 hr2 hr1=>cb Tryz.call46 z z (c_S_AreFacts a1 u1 (g1.now hC1.keep) a2.1 u2 (g2.now hC1.keep) x2 hr2) fun w3 hB3=>have hC3:=hC1.grow hB3;Ae z z<|B3 (fun hc1=>?_) (fun hc1=>?_)
  ·replace hr1:=AD hr1 hc1
   refine Ai z z<|fd A5 Ax z z z z<|Ai z z<|Aq hC3 0 z z A6 z z<|be hr1 fun x3 hr3 hr1=>Ai z z<|cb B9 z z (c_S_l1In a2.2 0 1000 x3 hr3) fun w4 hB4=>have hC4:=hC3.grow hB4;AI z z z<|Af z z<|Ab<|?_
   obtain rfl:=Aa hr1
   have hC5:=hC4.h0
   exact Ay (l':=[(4,(.bool x3))]) ⟨z,Ak⟩<|⟨x3,z,z,((Al hB3).then hB4).below,hC5⟩
  replace hr1:=AE hr1 hc1
  refine gs z z z z<|gs z z z z<|gs z z z z<|AY z z z<|Af z z<|Ab<|?_
  obtain rfl:=Aa hr1
  have hC6:=hC3.h0
  exact Ay (l':=[(4,(.bool false))]) ⟨z,Ak⟩<|⟨false,z,z,(Al hB3).below,hC6⟩
 rintro _ w2 ⟨x1,rfl,rfl,hB2,hC2⟩
 try dsimp only at hF
 refine AK ?_
 obtain rfl:=Aa hF
 exact AB z z<|⟨_,z,Bf hC2 _⟩
theorem c_S_l2Copy {w0:World} (a1:(List (Int × (List Int)))) (u1:Value) (g1:RO [] w0 u1 a1) (rr:(List (Int × (List Int)))) (hF:S.l2Copy a1=some rr) :
 Calls Tryz.prog 79 [u1].toArray w0 fun e w'=>∃v,e=.returned v∧Res w0 rr v w':=by
 refine A3 Tryz.func79 z z ?_
 have hC0:=AH w0
 unfold S.l2Copy at hF
 refine Ad<|Af z z<|Ab<|Ad<|AN (vs:=[]) hC0 Ah ty29 z z z z (by simp) z z fun b1 w1 hC1 hB1=>?_
 have hC2:=hC1.row0 (α:=(Int × (List Int)))
 have hC3:=hC2.front 1 z
 dsimp only [List.eraseIdx,List.cons_append,List.nil_append,List.append_nil] at hC3
 have hC4:Ctx [] w0 w1 (Ag (.slice (some ⟨b1,0,none⟩) 0 0) (([]:List (Int × (List Int))):List (Int × (List Int)))::[]):=hC3.rowOwn (by simp [maxLen])
 refine Af z z<|Ab<|AA<|Ad<|Af z z<|Ab<|be hF fun r1 hr1 hF=>Bx (fun l w=>∃v2:Value,∃x3:(List (Int × (List Int))),x3=r1∧l=[(3,v2)]∧Ctx [] w0 w [Ag v2 (x3:(List (Int × (List Int))))]) ?_ ?_
 ·refine Bb<|wS (l':=[(0,u1),(3,(.slice (some ⟨b1,0,none⟩) 0 0)),(4,(I 0))]) ⟨z,z,z,Ak⟩<|BE (fun k l w=>∃v1:Value,∃x1:(List (Int × (List Int))),∃x2:Int,l=[(0,u1),(3,v1),(4,(I x2))]∧Ctx [] w0 w [Ag v1 (x1:(List (Int × (List Int))))]∧S.l2Copy_l1 a1 k x1 x2=some r1) FUEL ⟨(.slice (some ⟨b1,0,none⟩) 0 0),([]:List (Int × (List Int))),0,z,hC4,hr1⟩<|?_
  clear hr1
  rintro k1 _ w2 ⟨v1,x1,x2,rfl,hC5,hL1⟩
  cases k1 with
  | zero=>rw [S.l2Copy_l1] at hL1; cases hL1
  | succ k1 =>
   rw [S.l2Copy_l1] at hL1
   refine AA<|Ad<|Ae z z<|Ae z z<|Bo Ah g1 z z<|B8 z z z<|Ab<|AL z (fun hc1=>?_) (fun hc1=>?_)
   ·replace hL1:=AD hL1 hc1
    refine AM<|Av<|AA<|Bb<|W_drawn 15 z hmix fun w3 hB3=>have hC6:=hC5.grow hB3;tm 0 z z z<|tm 1 z z z<|tm 2 z z z<|be hL1 fun x4 hx1 hL1=>tk 3 z z (BK Ah ty29 g1 hx1 z z)<|AZ Ah ty29 g1 hx1 z z z fun b2 o1 h1=>Ab<|tf 4 A1 Ax z z z z z<|tm 6 z z z<|tm 7 z z z<|be hL1 fun x5 hx2 hL1=>tk 8 z z (BK Ah ty29 g1 hx2 z z)<|AZ Ah ty29 g1 hx2 z z z fun b3 o2 h2=>Ab<|tf 9 A1 A4 z z z z z<|wAS (l':=[(0,u1),(3,v1),(4,(I x2)),(6,(I x2)),(7,u1),(8,(I (List.length a1:Int))),(9,(.bool (decide (x2 < (List.length a1:Int))))),(12,v1),(13,u1),(14,(I x2)),(15,(ptr b2 o1)),(16,(ptr b2 (o1+0))),(18,u1),(19,(I x2)),(20,(ptr b3 o2)),(21,(ptr b3 (o2+1)))]) ⟨z,z,z,z,z,z,z,z,z,z,z,z,z,z,z,z,Ak⟩<|Bq [⟨5,[],fun vs=>AR (I x4.1),[]⟩,⟨10,[],fun vs=>Cs [] w0 x5.2,[]⟩] [[],[]] 4 z (by kernel_rfl) (by kernel_rfl) z ?_ ?_
    ·refine Am z ?_ ?_
     ·intro w4 hB4
      refine Aw<|⟨_,z,?_⟩
      refine Be ty3 h1.fst (hC6.keep.then hB4) z z (fun v3 h3=>?_)
      obtain rfl:=BJ h3
      exact Ab<|A0 (An _ _) z z ⟨z,z⟩
     refine Am z ?_ ?_
     ·intro w4 hB4
      refine Aw<|⟨_,z,?_⟩
      exact Be ty24 h2.snd (hC6.keep.then hB4) z z fun v4 h4=>Ab<|A0 (An _ _) z z ⟨z,h4⟩
     exact Ba
    intro w5 hB5
    refine Au z z z ?_
    rintro _ _ ⟨rfl,rfl⟩
    refine Au z z z ?_
    rintro v4 _ ⟨rfl,h4⟩
    refine Bh fun hn1 hb1=>have hC7:=hC6.grow hB5;be hL1 fun x6 hr2 hL1=>oe 11 z<|AJ C2 z z (c_S_l2One x4.1 x5.2 v4 (h4.now hC7.keep) x6 hr2)<|?_
    rintro v5 w6 ⟨hB6,F1,hv1,hn2,hb2⟩
    have hC8:=hC7.push hB6 (A:=Ag v5 x6) hv1 hn2 hb2
    obtain ⟨v6,rfl,hC9⟩:=st29_own hC8
    refine Ab<|oe 12 z<|AN (vs:=[(.agg #[(I x6.1),v6])]) hC9 Ah ty29 z z z z (fac z<|fa0) z z fun b4 w7 hC10 hB7=>?_
    have hC11:=hC10.row0 (α:=(Int × (List Int)))
    have hC13:=hC11.f2
    have hC12:=Cj x6.1 v6 x6.2 hC13
    have hC14:=hC12.row1
    have hC15:=hC14.front 1 z
    dsimp only [List.eraseIdx,List.cons_append,List.nil_append,List.append_nil] at hC15
    have hC16:Ctx [] w0 w7 (Ag (.slice (some ⟨b4,0,none⟩) 1 1) ([(x6.1,x6.2)]:List (Int × (List Int)))::[Ag v1 (x1:(List (Int × (List Int))))]):=hC15.rowOwn (by simp [maxLen])
    refine Ab<|be hL1 fun x7 hx3 hL1=>oe 13 z<|BA hC16 0 z Ah ty29 z hx3 z z z fun v7 w9 hC17=>?_
    try dsimp only [List.set] at hC17
    exact Ab<|ta 14 z z z<|dn<|Bg<|Av<|Bt<|Ae z z<|Bw z z z<|Af z z<|Ab<|Ay (l':=[(0,u1),(3,v7),(4,(I (w64 (x2+1))))]) ⟨z,z,z,Ak⟩<|⟨k1,AO _,v7,x7,w64 (x2+1),z,hC17,hL1⟩
   replace hL1:=AE hL1 hc1
   refine BF (AW (AW (B4 ?_)))
   obtain rfl:=Aa hL1
   exact Ay (l':=[(3,v1)]) ⟨z,Ak⟩<|⟨v1,x1,z,z,hC5⟩
 rintro l2 _ w10 hs2 ⟨v2,x3,rfl,rfl,hC19⟩
 try dsimp only at hF
 refine Bm hs2 ?_
 clear hs2
 refine Ad<|Ae z z<|Af z z<|Ab<|AK<|?_
 obtain rfl:=Aa hF
 exact AB z z<|⟨_,z,Cf hC19 0 z⟩
theorem c_S_l25Copy {w0:World} (a1:((List (Int × (List Int))) × Int)) (u1:Value) (g1:RO [] w0 u1 a1.1) (rr:((List (Int × (List Int))) × Int)) (hF:S.l25Copy a1=some rr) :
 Calls Tryz.prog 39 [(.agg #[u1,(I a1.2)])].toArray w0 fun e w'=>∃v,e=.returned v∧Res w0 rr v w':=by
 refine A3 Tryz.func39 z z ?_
 have hC0:=AH w0
 unfold S.l25Copy at hF
 refine Ad<|Bz (cs:=[u1,(I a1.2)]) hC0 z z z fun b1 w1 hC1 hB1 hN1=>Bd hC1 zero27 z z fun b2 w2 hC2 hB2 hN2=>Ab<|AA<|W_drawn 7 z hmix fun w3 hB3=>have hC3:=hC2.grow hB3;tf 0 A5 AG z z z z z<|tf 3 A5 Ax z z z z z<|be hF fun x1 hr1 hF=>wAS (l':=[(0,(.agg #[u1,(I a1.2)])),(1,(ptr b1 0)),(2,(ptr b2 0)),(3,(ptr b1 0)),(6,(ptr b1 1))]) ⟨z,z,z,z,z,Ak⟩<|Bq [⟨1,[],fun vs=>AR u1,[]⟩,⟨2,[],fun vs=>Cv x1,[]⟩,⟨4,[],fun vs=>AR (I a1.2),[]⟩] [[],[1],[]] 2 z (by kernel_rfl) (by kernel_rfl) z ?_ ?_
 ·refine Am z ?_ ?_
  ·intro w5 hB5
   refine Aw<|⟨_,z,?_⟩
   exact Aq (hC3.grow hB5) 1 z z Bk z z<|Ab<|A0 (An _ _) z z ⟨z,z⟩
  refine Am z ?_ ?_
  ·intro w5 hB5
   refine A7 z z z ?_
   rintro _ _ ⟨rfl,rfl⟩ _
   refine Aw<|⟨_,z,?_⟩
   refine AJ Tryz.call79 z z (c_S_l2Copy a1.1 u1 (g1.now (hC3.keep.then hB5)) x1 hr1) ?_
   rintro v1 w4 ⟨hB4,F1,hv1,hn1,hb1⟩
   exact Ab<|Cq hB4 z z hv1 hn1 hb1 (Val.inh hv1)
  refine Am z ?_ ?_
  ·intro w5 hB5
   refine Aw<|⟨_,z,?_⟩
   exact Aq (hC3.grow hB5) 1 z z A6 z z<|Ab<|A0 (An _ _) z z ⟨z,z⟩
  exact Ba
 intro w6 hB6
 refine Au z z z ?_
 rintro _ _ ⟨rfl,rfl⟩
 refine Au z z z fun v1 F1 hv1=>Au z z z<|?_
 rintro _ _ ⟨rfl,rfl⟩
 refine Bh ?_
 intro hn2 hb2
 have hC4:=hC3.pushL hB6 (Bs:=[Ag v1 (x1:(List (Int × (List Int))))]) (Fs:=[F1]) ⟨F1,_,z,hv1,z⟩ (by simpa using hn2) (fun b h=>(hb2 b (by simpa using h)).1)
 refine tk 5 z z (Cp (vs:=[(0,v1),(1,(I a1.2))]) z z (built27_0_1 (Ca (hC4.ro 0 z)) z))<|BD (vs:=[(0,v1),(1,(I a1.2))]) z z z (built27_0_1 (Ca (hC4.ro 0 z)) z)<|Ab<|oe 6 z<|Aj (cs':=[v1,(I a1.2)]) (new:=[v1,(I a1.2)]) hC4 1 z z (fac (AT (hC4.ro 0 z))<|fac z<|fa0) z Az z z fun w7 hC5 hKp1=>?_
 try dsimp only [List.set] at hC5
 have hk1:=Ar ((((Al hB1).then hB2).then hB3).then hB6) (Ao (Al hB1).size hN2) hKp1
 have hk2:=Ar (((Al hB2).then hB3).then hB6) hN2 hKp1
 refine Ab<|dn<|Av<|AK<|?_
 obtain rfl:=Aa hF
 refine BR z (rv_cell_agg (cs':=[v1,(I a1.2)]) hC5 (i:=1) z z z A8 Az z) ?_
 have hC6:=Cb v1 x1 a1.2 hC5
 exact ⟨_,z,Cf hC6 0 z⟩
theorem c_S_ApplyChange {w0:World} (a1:(List Int)) (u1:Value) (g1:RO [] w0 u1 a1) (a2:((List (Int × (List Int))) × Int)) (u2:Value) (g2:RO [] w0 u2 a2.1) (a3:(Bool × (Int × (List Int)))) (u3:Value) (g3:RO [] w0 u3 a3.2.2) (rr:(((List (Int × (List Int))) × Int) × Bool)) (hF:S.ApplyChange a1 a2 a3=some rr) :
 Calls Tryz.prog 8 [u1,(.agg #[u2,(I a2.2)]),(.agg #[(.bool a3.1),(I a3.2.1),u3])].toArray w0 fun e w'=>∃v,e=.returned v∧Res2 w0 rr.1 rr.2 v w':=by
 refine A3 Tryz.func8 z z ?_
 have hC0:=AH w0
 unfold S.ApplyChange at hF
 refine Ad<|Bz (cs:=[u2,(I a2.2)]) hC0 z z z fun b1 w1 hC1 hB1 hN1=>Bz (cs:=[(.bool a3.1),(I a3.2.1),u3]) hC1 z z z fun b2 w2 hC2 hB2 hN2=>Bd hC2 zero27 z z fun b3 w3 hC3 hB3 hN3=>Af z z<|Ab<|Ad<|At [u2,(I a2.2)] hC3 2 z z z A8 Az z z<|be hF fun x1 hr1 hF=>AJ Tryz.call39 z z (c_S_l25Copy (a2.1,a2.2) u2 (g2.now hC3.keep) x1 hr1)<|?_
 rintro v1 w4 ⟨hB4,F1,hv1,hn1,hb1⟩
 have hC4:=hC3.push hB4 (A:=Ag v1 x1) hv1 hn1 hb1
 obtain ⟨v2,rfl,hC5⟩:=st27_own hC4
 refine Bd hC5 zero27 z z fun b4 w5 hC6 hB5 hN4=>Aj (cs':=[v2,(I x1.2)]) (new:=[v2,(I x1.2)]) hC6 0 z z (fac (AT (hC6.ro 1 z))<|fac z<|fa0) z Az z z fun w6 hC7 hKp1=>?_
 try dsimp only [List.set] at hC7
 have hk1:=Ar (((((Al hB1).then hB2).then hB3).then hB4).then hB5) (Ao ((((Al hB1).then hB2).then hB3).then hB4).size hN4) hKp1
 have hk2:=Ar ((((Al hB2).then hB3).then hB4).then hB5) (Ao (((Al hB2).then hB3).then hB4).size hN4) hKp1
 have hk3:=Ar (((Al hB3).then hB4).then hB5) (Ao ((Al hB3).then hB4).size hN4) hKp1
 have hk4:=Ar ((Al hB4).then hB5) (Ao (Al hB4).size hN4) hKp1
 have hk5:=Ar (Al hB5) hN4 hKp1
 refine Ab<|AA<|be hF fun r1 hr2 hF=>BL (fun l w=>∃x2:Bool,x2=r1∧l=[(4,(ptr b1 0)),(5,(ptr b2 0)),(6,(ptr b3 0)),(8,(ptr b4 0)),(47,(.bool x2))]∧Below w6.heap.size w6 w∧Ctx [] w0 w [Ac b4 [v2,(I x1.2)],Ag v2 (x1.1:(List (Int × (List Int)))),Ac b3 [(.slice none 0 0),(I 0)],Ac b2 [(.bool a3.1),(I a3.2.1),u3],Ac b1 [u2,(I a2.2)]]) ?_ ?_
 ·refine W_drawn 36 z hmix fun w9 hB7=>have hC9:=hC7.grow hB7;tm 0 z z z<|oe 1 z<|At [u2,(I a2.2)] hC9 4 z z z A8 Az z z<|Ab<|be hr2 fun x3 hr3 hr2=>oe 2 z<|cb Tryz.call11 z z (c_S_IsSource a1 u1 (g1.now hC9.keep) (a2.1,a2.2) u2 (g2.now hC9.keep) x3 hr3) fun w10 hB8=>have hC10:=hC9.grow hB8;Ab<|tk 3 z z (CG z)<|B2 z z<|Ab<|tm 4 z z z<|BO (fun hc1=>?_) (fun hc1=>?_)
  ·replace hr2:=AD hr2 hc1
   refine sk 5 z z z z z<|sk 6 z z z z z<|sk 7 z z z z z<|sk 8 z z z z z<|sk 9 z z z z z<|tp 10 z z z z<|tm 11 z z z<|sk 12 z z z z z<|sk 13 z z z z z<|sk 14 z z z z z<|tp 15 z z z z<|tm 16 z z z<|sk 17 z z z z z<|sk 18 z z z z z<|sk 19 z z z z z<|sk 20 z z z z z<|sk 21 z z z z z<|sk 22 z z z z z<|sk 23 z z z z z<|sk 24 z z z z z<|tp 25 z z z z<|tm 26 z z z<|sk 27 z z z z z<|sk 28 z z z z z<|sk 29 z z z z z<|sk 30 z z z z z<|sk 31 z z z z z<|sk 32 z z z z z<|sk 33 z z z z z<|sk 34 z z z z z<|tp 35 z z z z<|dn<|?_
   obtain rfl:=Aa hr2
   exact Ay (l':=[(4,(ptr b1 0)),(5,(ptr b2 0)),(6,(ptr b3 0)),(8,(ptr b4 0)),(47,(.bool true))]) ⟨z,z,z,z,z,Ak⟩<|⟨true,z,z,((Al hB7).then hB8).below,hC10⟩
  replace hr2:=AE hr2 hc1
  refine tn 5 z z z z z<|tg 6 z z z z (BB B1 z z (fun w=>⟨_,AQ w⟩) z)<|Ai z z<|fd B1 AQ z z z z<|Ab<|oe 7 z<|Ai z z<|At [(I a3.2.1),u3] hC10 3 z z z By AQ z z<|Ab<|be hr2 fun x4 hr4 hr2=>oe 8 z<|Ai z z<|cb Tryz.call40 z z (c_S_IsFact a1 u1 (g1.now hC10.keep) (a3.2.1,a3.2.2) u3 (g3.now hC10.keep) x4 hr4) fun w11 hB9=>have hC11:=hC10.grow hB9;Ab<|tg 9 z z z z (CG z)<|Ai z z<|B2 z z<|Ab<|tq 10 z z z z<|tm 11 z z z<|BO (fun hc2=>?_) (fun hc2=>?_)
  ·replace hr2:=AD hr2 hc2
   refine sk 12 z z z z z<|sk 13 z z z z z<|sk 14 z z z z z<|tp 15 z z z z<|tm 16 z z z<|sk 17 z z z z z<|sk 18 z z z z z<|sk 19 z z z z z<|sk 20 z z z z z<|sk 21 z z z z z<|sk 22 z z z z z<|sk 23 z z z z z<|sk 24 z z z z z<|tp 25 z z z z<|tm 26 z z z<|sk 27 z z z z z<|sk 28 z z z z z<|sk 29 z z z z z<|sk 30 z z z z z<|sk 31 z z z z z<|sk 32 z z z z z<|sk 33 z z z z z<|sk 34 z z z z z<|tp 35 z z z z<|dn<|?_
   obtain rfl:=Aa hr2
   exact Ay (l':=[(4,(ptr b1 0)),(5,(ptr b2 0)),(6,(ptr b3 0)),(8,(ptr b4 0)),(47,(.bool true))]) ⟨z,z,z,z,z,Ak⟩<|⟨true,z,z,(((Al hB7).then hB8).then hB9).below,hC11⟩
  replace hr2:=AE hr2 hc2
  refine tg 12 z z z z (BB A5 z z (fun w=>⟨_,Ax w⟩) z)<|Ai z z<|fd A5 Ax z z z z<|Ab<|oe 13 z<|Ai z z<|Aq hC11 4 z z A6 z z<|Ab<|tg 14 z z z z (fl_geq z z)<|Ai z z<|Cu z z z<|Ab<|tq 15 z z z z<|tm 16 z z z<|BO (fun hc3=>?_) (fun hc3=>?_)
  ·replace hr2:=AD hr2 hc3
   refine sk 17 z z z z z<|sk 18 z z z z z<|sk 19 z z z z z<|sk 20 z z z z z<|sk 21 z z z z z<|sk 22 z z z z z<|sk 23 z z z z z<|sk 24 z z z z z<|tp 25 z z z z<|tm 26 z z z<|sk 27 z z z z z<|sk 28 z z z z z<|sk 29 z z z z z<|sk 30 z z z z z<|sk 31 z z z z z<|sk 32 z z z z z<|sk 33 z z z z z<|sk 34 z z z z z<|tp 35 z z z z<|dn<|?_
   obtain rfl:=Aa hr2
   exact Ay (l':=[(4,(ptr b1 0)),(5,(ptr b2 0)),(6,(ptr b3 0)),(8,(ptr b4 0)),(47,(.bool true))]) ⟨z,z,z,z,z,Ak⟩<|⟨true,z,z,(((Al hB7).then hB8).then hB9).below,hC11⟩
  replace hr2:=AE hr2 hc3
  refine tg 17 z z z z (BB A5 z z (fun w=>⟨_,AG w⟩) z)<|Ai z z<|fd A5 AG z z z z<|Ab<|tg 19 z z z z (BB B1 z z (fun w=>⟨_,AQ w⟩) z)<|Ai z z<|fd B1 AQ z z z z<|Ab<|tg 22 z z z z (BB B1 z z (fun w=>⟨_,BG w⟩) z)<|Ai z z<|fd B1 BG z z z z<|Ab<|be hr2 fun x5 hr5 hr2=>wAS (l':=[(0,u1),(1,(.agg #[u2,(I a2.2)])),(2,(.agg #[(.bool a3.1),(I a3.2.1),u3])),(4,(ptr b1 0)),(5,(ptr b2 0)),(6,(ptr b3 0)),(7,(.bool false)),(8,(ptr b4 0)),(10,(.agg #[u2,(I a2.2)])),(11,(.agg #[v2,(I x1.2)])),(12,u1),(13,(.agg #[u2,(I a2.2)])),(14,(.bool x3)),(15,(.bool (!x3))),(16,(.bool false)),(17,u1),(18,(ptr b2 1)),(19,(.agg #[(I a3.2.1),u3])),(20,(.bool x4)),(21,(.bool (!x4))),(22,(.bool (!x4))),(23,(.bool false)),(24,(ptr b1 1)),(25,(I a2.2)),(26,(.bool (decide (1000 ≤ a2.2)))),(27,(.bool (decide (1000 ≤ a2.2)))),(28,(.bool false)),(29,(ptr b1 0)),(31,(ptr b2 1)),(34,(ptr b2 0))]) ⟨z,z,z,z,z,z,z,z,z,z,z,z,z,z,z,z,z,z,z,z,z,z,z,z,z,z,z,z,z,z,Ak⟩<|Bq [⟨18,[],fun vs=>AR u2,[]⟩,⟨20,[],fun vs=>AR (.agg #[(I a3.2.1),u3]),[]⟩,⟨21,[],fun vs=>AR (.bool x5),[]⟩,⟨23,[],fun vs=>AR (.bool a3.1),[]⟩] [[],[],[18,20],[]] 12 z (by kernel_rfl) (by kernel_rfl) z ?_ ?_
  ·refine Am z ?_ ?_
   ·intro w13 hB11
    refine Aw<|⟨_,z,?_⟩
    exact Ai z z<|Aq (hC11.grow hB11) 4 z z Bk z z<|Ab<|A0 (An _ _) z z ⟨z,z⟩
   refine Am z ?_ ?_
   ·intro w13 hB11
    refine Aw<|⟨_,z,?_⟩
    exact Ai z z<|At [(I a3.2.1),u3] (hC11.grow hB11) 3 z z z By AQ z z<|Ab<|A0 (An _ _) z z ⟨z,z⟩
   refine Am z ?_ ?_
   ·intro w13 hB11
    refine A7 z z z ?_
    rintro _ _ ⟨rfl,rfl⟩ _
    refine A7 z z z ?_
    rintro _ _ ⟨rfl,rfl⟩ _
    refine Aw<|⟨_,z,?_⟩
    exact Ai z z<|cb Tryz.call12 z z (c_S_HasFact a2.1 u2 (g2.now (hC11.keep.then hB11)) (a3.2.1,a3.2.2) u3 (g3.now (hC11.keep.then hB11)) x5 hr5) fun w12 hB10=>Ab<|A0 hB10 z z ⟨z,z⟩
   refine Am z ?_ ?_
   ·intro w13 hB11
    refine Aw<|⟨_,z,?_⟩
    exact Ai z z<|Aq (hC11.grow hB11) 3 z z Cd z z<|Ab<|A0 (An _ _) z z ⟨z,z⟩
   exact Ba
  intro w14 hB12
  refine Au z z z ?_
  rintro _ _ ⟨rfl,rfl⟩
  refine Au z z z ?_
  rintro _ _ ⟨rfl,rfl⟩
  refine Au z z z ?_
  rintro _ _ ⟨rfl,rfl⟩
  refine Au z z z ?_
  rintro _ _ ⟨rfl,rfl⟩
  refine Bh fun hn2 hb2=>have hC12:=hC11.grow hB12;tg 24 z z z z (fl_bool_eql C0 z z)<|Ai z z<|WL_bool_eql C0 z z z<|Ab<|tq 25 z z z z<|tm 26 z z z<|BO (fun hc4=>?_) (fun hc4=>?_)
  ·replace hr2:=AD hr2 hc4
   refine sk 27 z z z z z<|sk 28 z z z z z<|sk 29 z z z z z<|sk 30 z z z z z<|sk 31 z z z z z<|sk 32 z z z z z<|sk 33 z z z z z<|sk 34 z z z z z<|tp 35 z z z z<|dn<|?_
   obtain rfl:=Aa hr2
   exact Ay (l':=[(4,(ptr b1 0)),(5,(ptr b2 0)),(6,(ptr b3 0)),(8,(ptr b4 0)),(47,(.bool true))]) ⟨z,z,z,z,z,Ak⟩<|⟨true,z,z,((((Al hB7).then hB8).then hB9).then hB12).below,hC12⟩
  replace hr2:=AE hr2 hc4
  refine tg 27 z z z z (BB B1 z z (fun w=>⟨_,BG w⟩) z)<|Ai z z<|fd B1 BG z z z z<|Ab<|oe 28 z<|Ai z z<|Aq hC12 3 z z Cd z z<|Ab<|tn 29 z z z z z<|BO (fun hc5=>?_) (fun hc5=>?_)
  ·replace hr2:=AD hr2 hc5
   refine tg 30 z z z z (BB A5 z z (fun w=>⟨_,AG w⟩) z)<|Ai z z<|fd A5 AG z z z z<|Ab<|oe 31 z<|Ai z z<|Aq hC12 4 z z Bk z z<|Ab<|tg 32 z z z z (CO Ah g2 z)<|Ai z z<|Bo Ah g2 z z<|Ab<|tg 33 z z z z (fl_geq z z)<|Ai z z<|Cu z z z<|Ab<|tg 34 z z z z (fl_pick_t z z)<|Ai z z<|AI z z z<|Ab<|tq 35 z z z z<|dn<|?_
   obtain rfl:=Aa hr2
   exact Ay (l':=[(4,(ptr b1 0)),(5,(ptr b2 0)),(6,(ptr b3 0)),(8,(ptr b4 0)),(47,(.bool (decide (24 ≤ (List.length a2.1:Int)))))]) ⟨z,z,z,z,z,Ak⟩<|⟨(decide (24 ≤ (List.length a2.1:Int))),z,z,((((Al hB7).then hB8).then hB9).then hB12).below,hC12⟩
  replace hr2:=AE hr2 hc5
  refine sk 30 z z z z z<|sk 31 z z z z z<|sk 32 z z z z z<|sk 33 z z z z z<|tg 34 z z z z (fl_pick_f z z)<|Ai z z<|AY z z z<|Ab<|tq 35 z z z z<|dn<|?_
  obtain rfl:=Aa hr2
  exact Ay (l':=[(4,(ptr b1 0)),(5,(ptr b2 0)),(6,(ptr b3 0)),(8,(ptr b4 0)),(47,(.bool false))]) ⟨z,z,z,z,z,Ak⟩<|⟨false,z,z,((((Al hB7).then hB8).then hB9).then hB12).below,hC12⟩
 rintro _ w7 ⟨x2,rfl,rfl,hB6,hC8⟩
 try dsimp only at hF
 refine AL z (fun hc6=>?_) (fun hc6=>?_)
 ·replace hF:=AD hF hc6
  refine Ad<|At [v2,(I x1.2)] hC8 0 z z z A8 Az z z<|Aj (cs':=[v2,(I x1.2)]) (new:=[v2,(I x1.2)]) hC8 2 z z (fac (AT (hC8.ro 1 z))<|fac z<|fa0) z Az z z fun w15 hC13 hKp2=>?_
  try dsimp only [List.set] at hC13
  have hk6:=Ar (hk1.then hB6) (Ao ((Al hB1).then hB2).size hN3) hKp2
  have hk7:=Ar (hk2.then hB6) (Ao (Al hB2).size hN3) hKp2
  have hk8:=Ar (hk3.then hB6) hN3 hKp2
  refine Af z z<|Ab<|AK<|A2<|?_
  obtain rfl:=Aa hF
  refine BZ z (rv_cell_agg (cs':=[v2,(I x1.2)]) hC13 (i:=2) z z z A8 Az z) (rv_tmp z) ?_
  have hC14:=hC13.triv (Ck (false))
  have hC16:=hC14.f2
  have hC15:=Cb v2 x1.1 x1.2 hC16
  exact ⟨_,z,res2_of hC15⟩
 replace hF:=AE hF hc6
 refine AM<|Av<|Ad<|fd A5 Ax z z z z<|Aq hC8 4 z z A6 z z<|Bw z z z<|fd A5 Ax z z z z<|Bc (cs':=[v2,(I (w64 (a2.2+1)))]) hC8 0 z z z z Ax z z fun w16 hC17 hKp3=>?_
 try dsimp only [List.set] at hC17
 have hk9:=Ar (hk1.then hB6) (Ao ((((Al hB1).then hB2).then hB3).then hB4).size hN4) hKp3
 have hk10:=Ar (hk2.then hB6) (Ao (((Al hB2).then hB3).then hB4).size hN4) hKp3
 have hk11:=Ar (hk3.then hB6) (Ao ((Al hB3).then hB4).size hN4) hKp3
 have hk12:=Ar (hk4.then hB6) (Ao (Al hB4).size hN4) hKp3
 have hk13:=Ar (hk5.then hB6) hN4 hKp3
 refine Ab<|AA<|Ad<|fd B1 BG z z z z<|Aq hC17 3 z z Cd z z<|Ab<|AL z (fun hc7=>?_) (fun hc7=>?_)
 ·replace hF:=AD hF hc7
  refine Ad<|fd A5 AG z z z z<|Aq hC17 4 z z Bk z z<|fd B1 AQ z z z z<|At [(I a3.2.1),u3] hC17 3 z z z By AQ z z<|be hF fun x6 hr6 hF=>AJ Tryz.call41 z z (c_S_AddFact a2.1 u2 (g2.now hC17.keep) (a3.2.1,a3.2.2) u3 (g3.now hC17.keep) x6 hr6)<|?_
  rintro v3 w17 ⟨hB13,F2,hv5,hn3,hb3⟩
  have hC18:=hC17.push hB13 (A:=Ag v3 x6) hv5 hn3 hb3
  refine fd A5 AG z z z z<|Bc (cs':=[v3,(I (w64 (a2.2+1)))]) hC18 1 z z (AT (hC18.ro 0 z)) z AG z z fun w18 hC19 hKp4=>?_
  try dsimp only [List.set] at hC19
  have hk14:=Ar (hk9.then hB13) (Ao ((((Al hB1).then hB2).then hB3).then hB4).size hN4) hKp4
  have hk15:=Ar (hk10.then hB13) (Ao (((Al hB2).then hB3).then hB4).size hN4) hKp4
  have hk16:=Ar (hk11.then hB13) (Ao ((Al hB3).then hB4).size hN4) hKp4
  have hk17:=Ar (hk12.then hB13) (Ao (Al hB4).size hN4) hKp4
  have hk18:=Ar (hk13.then hB13) hN4 hKp4
  refine Ab<|Ad<|At [v3,(I (w64 (a2.2+1)))] hC19 1 z z z A8 Az z z<|Aj (cs':=[v3,(I (w64 (a2.2+1)))]) (new:=[v3,(I (w64 (a2.2+1)))]) hC19 3 z z (fac (AT (hC19.ro 0 z))<|fac z<|fa0) z Az z z fun w19 hC20 hKp5=>?_
  try dsimp only [List.set] at hC20
  have hk19:=Ar hk14 (Ao ((Al hB1).then hB2).size hN3) hKp5
  have hk20:=Ar hk15 (Ao (Al hB2).size hN3) hKp5
  have hk21:=Ar hk16 hN3 hKp5
  refine Af z z<|Ab<|AK<|A2<|?_
  obtain rfl:=Aa hF
  refine BZ z (rv_cell_agg (cs':=[v3,(I (w64 (a2.2+1)))]) hC20 (i:=3) z z z A8 Az z) (rv_tmp z) ?_
  have hC21:=hC20.triv (Ck (true))
  have hC23:=hC21.f1
  have hC22:=Cb v3 x6 (w64 (a2.2+1)) hC23
  exact ⟨_,z,res2_of hC22⟩
 replace hF:=AE hF hc7
 refine AM<|Av<|Ad<|AN (vs:=[]) hC17 Ah ty29 z z z z (by simp) z z fun b5 w20 hC24 hB14=>?_
 have hC25:=hC24.row0 (α:=(Int × (List Int)))
 have hC26:=hC25.front 1 z
 dsimp only [List.eraseIdx,List.cons_append,List.nil_append,List.append_nil] at hC26
 have hC27:Ctx [] w0 w20 (Ag (.slice (some ⟨b5,0,none⟩) 0 0) (([]:List (Int × (List Int))):List (Int × (List Int)))::[Ac b4 [v2,(I (w64 (a2.2+1)))],Ag v2 (x1.1:(List (Int × (List Int)))),Ac b3 [(.slice none 0 0),(I 0)],Ac b2 [(.bool a3.1),(I a3.2.1),u3],Ac b1 [u2,(I a2.2)]]):=hC26.rowOwn (by simp [maxLen])
 refine fd A5 AG z z z z<|Bc (cs':=[(.slice (some ⟨b5,0,none⟩) 0 0),(I (w64 (a2.2+1)))]) hC27 1 z z (AT (hC27.ro 0 z)) z AG z z fun w21 hC28 hKp6=>?_
 try dsimp only [List.set] at hC28
 have hk22:=Ar (hk9.then hB14) (Ao ((((Al hB1).then hB2).then hB3).then hB4).size hN4) hKp6
 have hk23:=Ar (hk10.then hB14) (Ao (((Al hB2).then hB3).then hB4).size hN4) hKp6
 have hk24:=Ar (hk11.then hB14) (Ao ((Al hB3).then hB4).size hN4) hKp6
 have hk25:=Ar (hk12.then hB14) (Ao (Al hB4).size hN4) hKp6
 have hk26:=Ar (hk13.then hB14) hN4 hKp6
 refine Ab<|AA<|Ad<|Af z z<|Ab<|be hF fun r2 hr7 hF=>Bx (fun l w=>∃v5:Value,∃x10:(List (Int × (List Int))),∃x11:Int,(x10,x11)=r2∧l=[(6,(ptr b3 0)),(8,(ptr b4 0))]∧Ctx [] w0 w [Ag v5 (x10:(List (Int × (List Int)))),Ac b4 [v5,(I x11)],Ac b3 [(.slice none 0 0),(I 0)]]) ?_ ?_
 ·refine Bb<|have hC52:=hC28.f5;have hC53:=hC52.f5;have hC54:=hC53.f5;have hC55:=hC54.f4;have hC56:=hC55.f4;have hC57:=hC56.h5;wS (l':=[(4,(ptr b1 0)),(5,(ptr b2 0)),(6,(ptr b3 0)),(8,(ptr b4 0)),(9,(I 0))]) ⟨z,z,z,z,z,Ak⟩<|BE (fun k l w=>∃v4:Value,∃x7:(List (Int × (List Int))),∃x8:Int,∃x9:Int,l=[(4,(ptr b1 0)),(5,(ptr b2 0)),(6,(ptr b3 0)),(8,(ptr b4 0)),(9,(I x9))]∧Ctx [] w0 w [Ag v4 (x7:(List (Int × (List Int)))),Ac b4 [v4,(I x8)],Ac b3 [(.slice none 0 0),(I 0)],Ac b2 [(.bool a3.1),(I a3.2.1),u3],Ac b1 [u2,(I a2.2)]]∧S.ApplyChange_l1 a2 a3 k x7 x8 x9=some r2) FUEL ⟨(.slice (some ⟨b5,0,none⟩) 0 0),([]:List (Int × (List Int))),w64 (a2.2+1),0,z,hC57,hr7⟩<|?_
  clear hr7
  rintro k1 _ w22 ⟨v4,x7,x8,x9,rfl,hC29,hL1⟩
  cases k1 with
  | zero=>rw [S.ApplyChange_l1] at hL1; cases hL1
  | succ k1 =>
   rw [S.ApplyChange_l1] at hL1
   refine AA<|Ad<|Ae z z<|fd A5 AG z z z z<|Aq hC29 4 z z Bk z z<|Bo Ah g2 z z<|B8 z z z<|Ab<|AL z (fun hc8=>?_) (fun hc8=>?_)
   ·replace hL1:=AD hL1 hc8
    refine AM<|Av<|AA<|Bb<|AA<|W_drawn 9 z hmix fun w23 hB16=>have hC30:=hC29.grow hB16;tf 0 A5 AG z z z z z<|tm 2 z z z<|tf 5 B1 AQ z z z z z<|be hL1 fun x12 hx1 hL1=>wAS (l':=[(4,(ptr b1 0)),(5,(ptr b2 0)),(6,(ptr b3 0)),(8,(ptr b4 0)),(9,(I x9)),(64,(I x9)),(65,(ptr b1 0)),(66,u2),(67,(I (List.length a2.1:Int))),(68,(.bool (decide (x9 < (List.length a2.1:Int))))),(71,(ptr b1 0)),(73,(I x9)),(76,(ptr b2 1))]) ⟨z,z,z,z,z,z,z,z,z,z,z,z,z,Ak⟩<|Bq [⟨1,[],fun vs=>AR u2,[]⟩,⟨3,[],fun vs=>Cc [] w0 x12,[]⟩,⟨4,[],fun vs=>Cs [] w0 x12,[]⟩,⟨6,[],fun vs=>AR (.agg #[(I a3.2.1),u3]),[]⟩] [[],[1],[3],[]] 2 z (by kernel_rfl) (by kernel_rfl) z ?_ ?_
    ·refine Am z ?_ ?_
     ·intro w24 hB17
      refine Aw<|⟨_,z,?_⟩
      exact Aq (hC30.grow hB17) 4 z z Bk z z<|Ab<|A0 (An _ _) z z ⟨z,z⟩
     refine Am z ?_ ?_
     ·intro w24 hB17
      refine A7 z z z ?_
      rintro _ _ ⟨rfl,rfl⟩ _
      refine Aw<|⟨_,z,?_⟩
      exact AZ Ah ty29 g2 hx1 z z z fun b6 o1 h1=>Ab<|A0 (An _ _) z z ⟨z,_,_,z,h1⟩
     refine Am z ?_ ?_
     ·intro w24 hB17
      refine A7 z z z ?_
      rintro _ _ ⟨rfl,b6,o1,rfl,h1⟩ _
      refine Aw<|⟨_,z,?_⟩
      exact Be ty29 h1 (hC30.keep.then hB17) z z fun v8 h4=>Ab<|A0 (An _ _) z z ⟨z,h4⟩
     refine Am z ?_ ?_
     ·intro w24 hB17
      refine Aw<|⟨_,z,?_⟩
      exact At [(I a3.2.1),u3] (hC30.grow hB17) 3 z z z By AQ z z<|Ab<|A0 (An _ _) z z ⟨z,z⟩
     exact Ba
    intro w25 hB18
    refine Au z z z ?_
    rintro _ _ ⟨rfl,rfl⟩
    refine Au z z z ?_
    rintro _ _ ⟨rfl,b6,o1,rfl,h1⟩
    refine Au z z z ?_
    rintro v8 _ ⟨rfl,h4⟩
    obtain ⟨v7,rfl,h3⟩:=BM h4
    refine Au z z z ?_
    rintro _ _ ⟨rfl,rfl⟩
    refine Bh fun hn4 hb4=>have hC31:=hC30.grow hB18;be hL1 fun x13 hr8 hL1=>oe 7 z<|ci CB z z (c_S_CompareFacts x12 v7 (h3.now hC31.keep) (a3.2.1,a3.2.2) u3 (g3.now hC31.keep) x13 hr8) fun w26 hB19=>have hC32:=hC31.grow hB19;Ab<|tk 8 z z (fl_neq z z)<|Cl z z z<|Ab<|dn<|Av<|be hL1 fun r3 hr9 hL1=>Bx (fun l w=>∃v9:Value,∃x14:(List (Int × (List Int))),∃x15:Int,(x14,x15)=r3∧l=[(4,(ptr b1 0)),(5,(ptr b2 0)),(6,(ptr b3 0)),(8,(ptr b4 0)),(9,(I x9))]∧Ctx [] w0 w [Ag v9 (x14:(List (Int × (List Int)))),Ac b4 [v9,(I x15)],Ac b3 [(.slice none 0 0),(I 0)],Ac b2 [(.bool a3.1),(I a3.2.1),u3],Ac b1 [u2,(I a2.2)]]) ?_ ?_
    ·refine AL z (fun hc9=>?_) (fun hc9=>?_)
     ·replace hr9:=AD hr9 hc9
      refine W_drawn 19 z hmix fun w28 hB21=>have hC34:=hC32.grow hB21;tf 0 A5 AG z z z z z<|tf 2 A5 AG z z z z z<|tm 4 z z z<|tf 8 A5 AG z z z z z<|tm 10 z z z<|be hr9 fun x16 hx2 hr9=>be hr9 fun x17 hx3 hr9=>be hr9 fun x18 hr10 hr9=>wAS (l':=[(4,(ptr b1 0)),(5,(ptr b2 0)),(6,(ptr b3 0)),(8,(ptr b4 0)),(9,(I x9)),(64,(I x9)),(65,(ptr b1 0)),(66,u2),(67,(I (List.length a2.1:Int))),(68,(.bool (decide (x9 < (List.length a2.1:Int))))),(71,(ptr b1 0)),(72,u2),(73,(I x9)),(74,(ptr b6 o1)),(75,(.agg #[(I x12.1),v7])),(76,(ptr b2 1)),(77,(.agg #[(I a3.2.1),u3])),(78,(I x13)),(79,(.bool (!decide (x13=0)))),(80,(ptr b4 0)),(82,(ptr b1 0)),(84,(I x9)),(88,(ptr b1 0)),(90,(I x9))]) ⟨z,z,z,z,z,z,z,z,z,z,z,z,z,z,z,z,z,z,z,z,z,z,z,z,Ak⟩<|Bq [⟨1,[],fun vs=>AR v4,[]⟩,⟨3,[],fun vs=>AR u2,[]⟩,⟨5,[],fun vs=>Cc [] w0 x16,[]⟩,⟨6,[],fun vs=>Cc [] w0 x16.1,[]⟩,⟨7,[],fun vs=>AR (I x16.1),[]⟩,⟨9,[],fun vs=>AR u2,[]⟩,⟨11,[],fun vs=>Cc [] w0 x17,[]⟩,⟨12,[],fun vs=>Cc [] w0 x17.2,[]⟩,⟨13,[],fun vs=>Cs [] w0 x17.2,[]⟩,⟨14,[],fun vs=>Cv x18,[]⟩,⟨15,[],fun vs=>Cv ([(x18.1,x18.2)]:(List (Int × (List Int)))),[14]⟩] [[],[],[3],[5],[6],[],[9],[11],[12],[7,13],[]] 3 z (by kernel_rfl) (by kernel_rfl) z ?_ ?_
      ·refine Am z ?_ ?_
       ·intro w31 hB24
        refine Aw<|⟨_,z,?_⟩
        exact Aq (hC34.grow hB24) 1 z z Bk z z<|Ab<|A0 (An _ _) z z ⟨z,z⟩
       refine Am z ?_ ?_
       ·intro w31 hB24
        refine Aw<|⟨_,z,?_⟩
        exact Aq (hC34.grow hB24) 4 z z Bk z z<|Ab<|A0 (An _ _) z z ⟨z,z⟩
       refine Am z ?_ ?_
       ·intro w31 hB24
        refine A7 z z z ?_
        rintro _ _ ⟨rfl,rfl⟩ _
        refine Aw<|⟨_,z,?_⟩
        exact AZ Ah ty29 g2 hx2 z z z fun b7 o2 h5=>Ab<|A0 (An _ _) z z ⟨z,_,_,z,h5⟩
       refine Am z ?_ ?_
       ·intro w31 hB24
        refine A7 z z z ?_
        rintro _ _ ⟨rfl,b7,o2,rfl,h5⟩ _
        refine Aw<|⟨_,z,?_⟩
        exact fd A1 Ax z z z z<|Ab<|A0 (An _ _) z z ⟨z,_,_,z,h5.fst⟩
       refine Am z ?_ ?_
       ·intro w31 hB24
        refine A7 z z z ?_
        rintro _ _ ⟨rfl,b8,o3,rfl,h6⟩ _
        refine Aw<|⟨_,z,?_⟩
        refine Be ty3 h6 (hC34.keep.then hB24) z z (fun v10 h7=>?_)
        obtain rfl:=BJ h7
        exact Ab<|A0 (An _ _) z z ⟨z,z⟩
       refine Am z ?_ ?_
       ·intro w31 hB24
        refine Aw<|⟨_,z,?_⟩
        exact Aq (hC34.grow hB24) 4 z z Bk z z<|Ab<|A0 (An _ _) z z ⟨z,z⟩
       refine Am z ?_ ?_
       ·intro w31 hB24
        refine A7 z z z ?_
        rintro _ _ ⟨rfl,rfl⟩ _
        refine Aw<|⟨_,z,?_⟩
        exact AZ Ah ty29 g2 hx3 z z z fun b9 o4 h8=>Ab<|A0 (An _ _) z z ⟨z,_,_,z,h8⟩
       refine Am z ?_ ?_
       ·intro w31 hB24
        refine A7 z z z ?_
        rintro _ _ ⟨rfl,b9,o4,rfl,h8⟩ _
        refine Aw<|⟨_,z,?_⟩
        exact fd A1 A4 z z z z<|Ab<|A0 (An _ _) z z ⟨z,_,_,z,h8.snd⟩
       refine Am z ?_ ?_
       ·intro w31 hB24
        refine A7 z z z ?_
        rintro _ _ ⟨rfl,b10,o5,rfl,h9⟩ _
        refine Aw<|⟨_,z,?_⟩
        exact Be ty24 h9 (hC34.keep.then hB24) z z fun v11 h10=>Ab<|A0 (An _ _) z z ⟨z,h10⟩
       refine Am z ?_ ?_
       ·intro w31 hB24
        refine A7 z z z ?_
        rintro _ _ ⟨rfl,rfl⟩ _
        refine A7 z z z ?_
        rintro v11 _ ⟨rfl,h10⟩ _
        refine Aw<|⟨_,z,?_⟩
        refine AJ C2 z z (c_S_l2One x16.1 x17.2 v11 (h10.now (hC34.keep.then hB24)) x18 hr10) ?_
        rintro v12 w29 ⟨hB22,F3,hv7,hn5,hb5⟩
        exact Ab<|Cq hB22 z z hv7 hn5 hb5 (Val.inh hv7)
       refine StepsE_use z z z ?_ ?_
       ·intro w31 hB24
        refine Aw<|⟨_,_,z,z,?_⟩
        intro v12 F3 hv7 ho1
        have hC35:=Ctx.local hv7 ho1
        obtain ⟨v14,rfl,hC36⟩:=st29_own hC35
        refine AN (vs:=[(.agg #[(I x18.1),v14])]) hC36 Ah ty29 z z z z (fac z<|fa0) z z (fun b11 w30 hC37 hB23=>?_)
        have hC38:=hC37.row0 (α:=(Int × (List Int)))
        have hC40:=hC38.f2
        have hC39:=Cj x18.1 v14 x18.2 hC40
        have hC41:=hC39.row1
        have hC42:=hC41.front 1 z
        dsimp only [List.eraseIdx,List.cons_append,List.nil_append,List.append_nil] at hC42
        have hC43:Ctx F3 w31 w30 (Ag (.slice (some ⟨b11,0,none⟩) 1 1) ([(x18.1,x18.2)]:List (Int × (List Int)))::[]):=hC42.rowOwn (by simp [maxLen])
        exact Ab<|CI hC43 z z (fun F h=>h)
       exact Ba
      intro w32 hB25
      refine Au z z z ?_
      rintro _ _ ⟨rfl,rfl⟩
      refine Au z z z ?_
      rintro _ _ ⟨rfl,rfl⟩
      refine Au z z z ?_
      rintro _ _ ⟨rfl,b7,o2,rfl,h5⟩
      refine Au z z z ?_
      rintro _ _ ⟨rfl,b8,o3,rfl,h6⟩
      refine Au z z z ?_
      rintro _ _ ⟨rfl,rfl⟩
      refine Au z z z ?_
      rintro _ _ ⟨rfl,rfl⟩
      refine Au z z z ?_
      rintro _ _ ⟨rfl,b9,o4,rfl,h8⟩
      refine Au z z z ?_
      rintro _ _ ⟨rfl,b10,o5,rfl,h9⟩
      refine Au z z z ?_
      rintro v11 _ ⟨rfl,h10⟩
      refine AllE_skip z<|Au z z z fun v15 F4 hv8=>Bh fun hn6 hb6=>?_
      have hC44:=hC34.pushL hB25 (Bs:=[Ag v15 ([(x18.1,x18.2)]:(List (Int × (List Int))))]) (Fs:=[F4]) ⟨F4,_,z,hv8,z⟩ (by simpa using hn6) (fun b h=>(hb6 b (by simpa using h)).1)
      refine be hr9 fun x19 hx4 hr9=>oe 16 z<|BA hC44 0 z Ah ty29 z hx4 z z z fun v16 w33 hC45=>?_
      try dsimp only [List.set] at hC45
      refine Ab<|tf 17 A5 AG z z z z z<|oe 18 z<|Bc (cs':=[v16,(I x8)]) hC45 1 z z (AT (hC45.ro 0 z)) z AG z z fun w34 hC47 hKp7=>?_
      try dsimp only [List.set] at hC47
      refine Ab<|dn<|?_
      obtain rfl:=Aa hr9
      exact Ay (l':=[(4,(ptr b1 0)),(5,(ptr b2 0)),(6,(ptr b3 0)),(8,(ptr b4 0)),(9,(I x9))]) ⟨z,z,z,z,z,Ak⟩<|⟨v16,x19,x8,z,z,hC47⟩
     replace hr9:=AE hr9 hc9
     refine AM ?_
     obtain rfl:=Aa hr9
     exact Ay (l':=[(4,(ptr b1 0)),(5,(ptr b2 0)),(6,(ptr b3 0)),(8,(ptr b4 0)),(9,(I x9))]) ⟨z,z,z,z,z,Ak⟩<|⟨v4,x7,x8,z,z,hC32⟩
    rintro l3 _ w27 hs3 ⟨v9,x14,x15,rfl,rfl,hC33⟩
    try dsimp only at hL1
    refine Bg<|Bm hs3<|?_
    clear hs3
    exact Bt<|Ae z z<|Bw z z z<|Af z z<|Ab<|Ay (l':=[(4,(ptr b1 0)),(5,(ptr b2 0)),(6,(ptr b3 0)),(8,(ptr b4 0)),(9,(I (w64 (x9+1))))]) ⟨z,z,z,z,z,Ak⟩<|⟨k1,AO _,v9,x14,x15,w64 (x9+1),z,hC33,hL1⟩
   replace hL1:=AE hL1 hc8
   refine BF (AW (AW (B4 ?_)))
   obtain rfl:=Aa hL1
   have hC48:=hC29.f2
   have hC49:=hC48.f2
   have hC50:=hC49.f2
   have hC51:=hC50.h3
   exact Ay (l':=[(6,(ptr b3 0)),(8,(ptr b4 0))]) ⟨z,z,Ak⟩<|⟨v4,x7,x8,z,z,hC51⟩
 rintro l4 _ w35 hs4 ⟨v5,x10,x11,rfl,rfl,hC58⟩
 try dsimp only at hF
 refine Bm hs4 ?_
 clear hs4
 refine Ad<|At [v5,(I x11)] hC58 1 z z z A8 Az z z<|Aj (cs':=[v5,(I x11)]) (new:=[v5,(I x11)]) hC58 2 z z (fac (AT (hC58.ro 0 z))<|fac z<|fa0) z Az z z fun w36 hC59 hKp8=>?_
 try dsimp only [List.set] at hC59
 refine Af z z<|Ab<|AK<|?_
 obtain rfl:=Aa hF
 refine BZ z (rv_cell_agg (cs':=[v5,(I x11)]) hC59 (i:=2) z z z A8 Az z) (rv_tmp z) ?_
 have hC60:=hC59.triv (Ck (true))
 have hC62:=hC60.f1
 have hC61:=Cb v5 x10 x11 hC62
 exact ⟨_,z,res2_of hC61⟩
theorem c_S_IsMethod {w0:World} (a1:(List Int)) (u1:Value) (g1:RO [] w0 u1 a1) (a2:(Int × (List Int) × Int × Int × Int)) (u2:Value) (g2:RO [] w0 u2 a2.2.1) (rr:Bool) (hF:S.IsMethod a1 a2=some rr) :
 Calls Tryz.prog 103 [u1,(.agg #[(I a2.1),u2,(I a2.2.2.1),(I a2.2.2.2.1),(I a2.2.2.2.2)])].toArray w0 fun e w'=>∃v,e=.returned v∧Res w0 rr v w':=by
 refine A3 Tryz.func103 z z ?_
 have hC0:=AH w0
 unfold S.IsMethod at hF
 refine Ad<|Bz (cs:=[(I a2.1),u2,(I a2.2.2.1),(I a2.2.2.2.1),(I a2.2.2.2.2)]) hC0 z z z fun b1 w1 hC1 hB1 hN1=>Af z z<|Ab<|AA<|be hF fun r1 hr1 hF=>BL (fun l w=>∃x1:Bool,x1=r1∧l=[(0,u1),(3,(ptr b1 0)),(35,(.bool x1))]∧Below w1.heap.size w1 w∧Ctx [] w0 w [Ac b1 [(I a2.1),u2,(I a2.2.2.1),(I a2.2.2.2.1),(I a2.2.2.2.2)]]) ?_ ?_
 ·refine Bt<|Ae z z<|be hr1 fun x2 hr2 hr1=>cb Cm z z (c_S_IsSchema a1 u1 (g1.now hC1.keep) x2 hr2) fun w3 hB3=>have hC3:=hC1.grow hB3;B2 z z<|Ae z z<|B3 (fun hc1=>?_) (fun hc1=>?_)
  ·replace hr1:=AD hr1 hc1
   refine gs z z z z<|gs z z z z<|gs z z z z<|gs z z z z<|gs z z z z<|gs z z z z<|gs z z z z<|AI z z z<|Ae z z<|gs z z z z<|gs z z z z<|gs z z z z<|gs z z z z<|AI z z z<|Ae z z<|gs z z z z<|gs z z z z<|gs z z z z<|gs z z z z<|AI z z z<|Ae z z<|gs z z z z<|gs z z z z<|gs z z z z<|gs z z z z<|AI z z z<|Ab<|?_
   obtain rfl:=Aa hr1
   exact Ay (l':=[(0,u1),(3,(ptr b1 0)),(35,(.bool true))]) ⟨z,z,z,Ak⟩<|⟨true,z,z,(Al hB3).below,hC3⟩
  replace hr1:=AE hr1 hc1
  refine Ai z z<|fd AP Ax z z z z<|Ai z z<|Aq hC3 0 z z A6 z z<|Ai z z<|Ae z z<|Ai z z<|Bo Ap g1 z z<|Ai z z<|BV z z z<|be hr1 fun x3 hr3 hr1=>Ai z z<|cb B9 z z (c_S_l1In a2.1 0 (w64 ((List.length a1:Int) - 1)) x3 hr3) fun w4 hB4=>have hC4:=hC3.grow hB4;Ai z z<|B2 z z<|AY z z z<|Ae z z<|B3 (fun hc2=>?_) (fun hc2=>?_)
  ·replace hr1:=AD hr1 hc2
   refine gs z z z z<|gs z z z z<|gs z z z z<|gs z z z z<|AI z z z<|Ae z z<|gs z z z z<|gs z z z z<|gs z z z z<|gs z z z z<|AI z z z<|Ae z z<|gs z z z z<|gs z z z z<|gs z z z z<|gs z z z z<|AI z z z<|Ab<|?_
   obtain rfl:=Aa hr1
   exact Ay (l':=[(0,u1),(3,(ptr b1 0)),(35,(.bool true))]) ⟨z,z,z,Ak⟩<|⟨true,z,z,((Al hB3).then hB4).below,hC4⟩
  replace hr1:=AE hr1 hc2
  refine Ai z z<|fd AP Ax z z z z<|Ai z z<|Aq hC4 0 z z A6 z z<|be hr1 fun x4 hr4 hr1=>Ai z z<|cb B9 z z (c_S_l1In a2.2.2.1 0 9 x4 hr4) fun w5 hB5=>have hC5:=hC4.grow hB5;Ai z z<|B2 z z<|AY z z z<|Ae z z<|B3 (fun hc3=>?_) (fun hc3=>?_)
  ·replace hr1:=AD hr1 hc3
   refine gs z z z z<|gs z z z z<|gs z z z z<|gs z z z z<|AI z z z<|Ae z z<|gs z z z z<|gs z z z z<|gs z z z z<|gs z z z z<|AI z z z<|Ab<|?_
   obtain rfl:=Aa hr1
   exact Ay (l':=[(0,u1),(3,(ptr b1 0)),(35,(.bool true))]) ⟨z,z,z,Ak⟩<|⟨true,z,z,(((Al hB3).then hB4).then hB5).below,hC5⟩
  replace hr1:=AE hr1 hc3
  refine Ai z z<|fd AP Ax z z z z<|Ai z z<|Aq hC5 0 z z A6 z z<|be hr1 fun x5 hr5 hr1=>Ai z z<|cb B9 z z (c_S_l1In a2.2.2.2.1 0 99 x5 hr5) fun w6 hB6=>have hC6:=hC5.grow hB6;Ai z z<|B2 z z<|AY z z z<|Ae z z<|B3 (fun hc4=>?_) (fun hc4=>?_)
  ·replace hr1:=AD hr1 hc4
   refine gs z z z z<|gs z z z z<|gs z z z z<|gs z z z z<|AI z z z<|Ab<|?_
   obtain rfl:=Aa hr1
   exact Ay (l':=[(0,u1),(3,(ptr b1 0)),(35,(.bool true))]) ⟨z,z,z,Ak⟩<|⟨true,z,z,((((Al hB3).then hB4).then hB5).then hB6).below,hC6⟩
  replace hr1:=AE hr1 hc4
  refine Ai z z<|fd AP Ax z z z z<|Ai z z<|Aq hC6 0 z z A6 z z<|be hr1 fun x6 hr6 hr1=>Ai z z<|cb B9 z z (c_S_l1In a2.2.2.2.2 1 99 x6 hr6) fun w7 hB7=>have hC7:=hC6.grow hB7;Ai z z<|B2 z z<|AY z z z<|Ab<|?_
  obtain rfl:=Aa hr1
  exact Ay (l':=[(0,u1),(3,(ptr b1 0)),(35,(.bool (!x6)))]) ⟨z,z,z,Ak⟩<|⟨(!x6),z,z,(((((Al hB3).then hB4).then hB5).then hB6).then hB7).below,hC7⟩
 rintro _ w2 ⟨x1,rfl,rfl,hB2,hC2⟩
 try dsimp only at hF
 refine AL z (fun hc5=>?_) (fun hc5=>?_)
 ·replace hF:=AD hF hc5
  refine Ad<|Af z z<|Ab<|AK<|A2<|?_
  obtain rfl:=Aa hF
  exact AB z z<|⟨_,z,Bf hC2 _⟩
 replace hF:=AE hF hc5
 refine AM<|Av<|AA<|Ad<|Af z z<|Ab<|be hF fun r2 hr7 hF=>Bx (fun l w=>.inl ()=r2∧l=[]∧Below w2.heap.size w2 w∧Ctx [] w0 w []) ?_ ?_
 ·refine Bb<|wS (l':=[(0,u1),(3,(ptr b1 0)),(5,(I 0))]) ⟨z,z,z,Ak⟩<|BE (fun k l w=>∃x7:Int,l=[(0,u1),(3,(ptr b1 0)),(5,(I x7))]∧Below w2.heap.size w2 w∧Ctx [] w0 w [Ac b1 [(I a2.1),u2,(I a2.2.2.1),(I a2.2.2.2.1),(I a2.2.2.2.2)]]∧S.IsMethod_l1 a2 a1 k x7=some r2) FUEL ⟨0,z,(An _ _),hC2,hr7⟩<|?_
  clear hr7
  rintro k1 _ w9 ⟨x7,rfl,hB8,hC8,hL1⟩
  cases k1 with
  | zero=>rw [S.IsMethod_l1] at hL1; cases hL1
  | succ k1 =>
   rw [S.IsMethod_l1] at hL1
   refine AA<|Ad<|Ae z z<|fd AP A4 z z z z<|Aq hC8 0 z z AU z z<|Bo Ap g2 z z<|B8 z z z<|Ab<|AL z (fun hc6=>?_) (fun hc6=>?_)
   ·replace hL1:=AD hL1 hc6
    refine AM<|Av<|AA<|Bb<|be hL1 fun r3 hr8 hL1=>BL (fun l w=>∃x8:Bool,x8=r3∧l=[(0,u1),(3,(ptr b1 0)),(5,(I x7)),(73,(.bool x8))]∧Below w9.heap.size w9 w∧Ctx [] w0 w [Ac b1 [(I a2.1),u2,(I a2.2.2.1),(I a2.2.2.2.1),(I a2.2.2.2.2)]]) ?_ ?_
    ·refine W_drawn 31 z hmix fun w11 hB10=>have hC10:=hC8.grow hB10;tf 0 AP A4 z z z z z<|tm 2 z z z<|tm 5 z z z<|tf 6 AP Ax z z z z z<|be hr8 fun x9 hx1 hr8=>be hr8 fun x10 hx2 hr8=>wAS (l':=[(0,u1),(3,(ptr b1 0)),(5,(I x7)),(36,(I x7)),(37,(ptr b1 1)),(38,u2),(39,(I (List.length a2.2.1:Int))),(40,(.bool (decide (x7 < (List.length a2.2.1:Int))))),(43,(ptr b1 1)),(45,(I x7)),(48,u1),(49,(ptr b1 0))]) ⟨z,z,z,z,z,z,z,z,z,z,z,z,Ak⟩<|Bq [⟨1,[],fun vs=>AR u2,[]⟩,⟨3,[],fun vs=>Cc [] w0 x9,[]⟩,⟨4,[],fun vs=>AR (I x9),[]⟩,⟨7,[],fun vs=>AR (I a2.1),[]⟩,⟨8,[],fun vs=>Cc [] w0 x10,[]⟩,⟨9,[],fun vs=>AR (I x10),[]⟩,⟨10,[],fun vs=>AR (I (w64 (x10 - 1))),[]⟩] [[],[1],[3],[],[7],[8],[9]] 20 z (by kernel_rfl) (by kernel_rfl) z ?_ ?_
     ·refine Am z ?_ ?_
      ·intro w12 hB11
       refine Aw<|⟨_,z,?_⟩
       exact Aq (hC10.grow hB11) 0 z z AU z z<|Ab<|A0 (An _ _) z z ⟨z,z⟩
      refine Am z ?_ ?_
      ·intro w12 hB11
       refine A7 z z z ?_
       rintro _ _ ⟨rfl,rfl⟩ _
       refine Aw<|⟨_,z,?_⟩
       exact AZ Ap ty3 g2 hx1 z z z fun b2 o1 h1=>Ab<|A0 (An _ _) z z ⟨z,_,_,z,h1⟩
      refine Am z ?_ ?_
      ·intro w12 hB11
       refine A7 z z z ?_
       rintro _ _ ⟨rfl,b2,o1,rfl,h1⟩ _
       refine Aw<|⟨_,z,?_⟩
       refine Be ty3 h1 (hC10.keep.then hB11) z z (fun v1 h2=>?_)
       obtain rfl:=BJ h2
       exact Ab<|A0 (An _ _) z z ⟨z,z⟩
      refine Am z ?_ ?_
      ·intro w12 hB11
       refine Aw<|⟨_,z,?_⟩
       exact Aq (hC10.grow hB11) 0 z z A6 z z<|Ab<|A0 (An _ _) z z ⟨z,z⟩
      refine Am z ?_ ?_
      ·intro w12 hB11
       refine A7 z z z ?_
       rintro _ _ ⟨rfl,rfl⟩ _
       refine Aw<|⟨_,z,?_⟩
       exact AZ Ap ty3 g1 hx2 z z z fun b3 o2 h3=>Ab<|A0 (An _ _) z z ⟨z,_,_,z,h3⟩
      refine Am z ?_ ?_
      ·intro w12 hB11
       refine A7 z z z ?_
       rintro _ _ ⟨rfl,b3,o2,rfl,h3⟩ _
       refine Aw<|⟨_,z,?_⟩
       refine Be ty3 h3 (hC10.keep.then hB11) z z (fun v2 h4=>?_)
       obtain rfl:=BJ h4
       exact Ab<|A0 (An _ _) z z ⟨z,z⟩
      refine Am z ?_ ?_
      ·intro w12 hB11
       refine A7 z z z ?_
       rintro _ _ ⟨rfl,rfl⟩ _
       refine Aw<|⟨_,z,?_⟩
       exact BV z z z<|Ab<|A0 (An _ _) z z ⟨z,z⟩
      exact Ba
     intro w13 hB12
     refine Au z z z ?_
     rintro _ _ ⟨rfl,rfl⟩
     refine Au z z z ?_
     rintro _ _ ⟨rfl,b2,o1,rfl,h1⟩
     refine Au z z z ?_
     rintro _ _ ⟨rfl,rfl⟩
     refine Au z z z ?_
     rintro _ _ ⟨rfl,rfl⟩
     refine Au z z z ?_
     rintro _ _ ⟨rfl,b3,o2,rfl,h3⟩
     refine Au z z z ?_
     rintro _ _ ⟨rfl,rfl⟩
     refine Au z z z ?_
     rintro _ _ ⟨rfl,rfl⟩
     refine Bh fun hn1 hb1=>have hC11:=hC10.grow hB12;be hr8 fun x11 hr9 hr8=>oe 11 z<|cb B9 z z (c_S_l1In x9 0 (w64 (x10 - 1)) x11 hr9) fun w14 hB13=>have hC12:=hC11.grow hB13;Ab<|tk 12 z z (CG z)<|B2 z z<|Ab<|tm 13 z z z<|BO (fun hc7=>?_) (fun hc7=>?_)
     ·replace hr8:=AD hr8 hc7
      refine sk 14 z z z z z<|sk 15 z z z z z<|sk 16 z z z z z<|sk 17 z z z z z<|sk 18 z z z z z<|sk 19 z z z z z<|sk 20 z z z z z<|sk 21 z z z z z<|sk 22 z z z z z<|sk 23 z z z z z<|sk 24 z z z z z<|sk 25 z z z z z<|sk 26 z z z z z<|sk 27 z z z z z<|sk 28 z z z z z<|sk 29 z z z z z<|tp 30 z z z z<|dn<|?_
      obtain rfl:=Aa hr8
      exact Ay (l':=[(0,u1),(3,(ptr b1 0)),(5,(I x7)),(73,(.bool true))]) ⟨z,z,z,z,Ak⟩<|⟨true,z,z,(((Al hB10).then hB12).then hB13).below,hC12⟩
     replace hr8:=AE hr8 hc7
     refine tn 14 z z z z z<|tg 15 z z z z (fl_gtr z z)<|Ai z z<|Cr z z z<|Ab<|tn 16 z z z z z<|BO (fun hc8=>?_) (fun hc8=>?_)
     ·replace hr8:=AD hr8 hc8
      refine tg 17 z z z z (BB AP z z (fun w=>⟨_,A4 w⟩) z)<|Ai z z<|fd AP A4 z z z z<|Ab<|tn 19 z z z z z<|tg 22 z z z z (BB AP z z (fun w=>⟨_,A4 w⟩) z)<|Ai z z<|fd AP A4 z z z z<|Ab<|tn 24 z z z z z<|tg 25 z z z z (Cz z z)<|Ai z z<|BV z z z<|Ab<|be hr8 fun x12 hx3 hr8=>be hr8 fun x13 hx4 hr8=>wAS (l':=[(0,u1),(3,(ptr b1 0)),(5,(I x7)),(36,(I x7)),(37,(ptr b1 1)),(38,u2),(39,(I (List.length a2.2.1:Int))),(40,(.bool (decide (x7 < (List.length a2.2.1:Int))))),(43,(ptr b1 1)),(44,u2),(45,(I x7)),(46,(ptr b2 o1)),(47,(I x9)),(48,u1),(49,(ptr b1 0)),(50,(I a2.1)),(51,(ptr b3 o2)),(52,(I x10)),(53,(I (w64 (x10 - 1)))),(54,(.bool x11)),(55,(.bool (!x11))),(56,(.bool false)),(57,(I x7)),(58,(.bool (decide (0 < x7)))),(59,(.bool true)),(60,(ptr b1 1)),(62,(I x7)),(65,(ptr b1 1)),(67,(I x7)),(68,(I (w64 (x7 - 1))))]) ⟨z,z,z,z,z,z,z,z,z,z,z,z,z,z,z,z,z,z,z,z,z,z,z,z,z,z,z,z,z,z,Ak⟩<|Bq [⟨18,[],fun vs=>AR u2,[]⟩,⟨20,[],fun vs=>Cc [] w0 x12,[]⟩,⟨21,[],fun vs=>AR (I x12),[]⟩,⟨23,[],fun vs=>AR u2,[]⟩,⟨26,[],fun vs=>Cc [] w0 x13,[]⟩,⟨27,[],fun vs=>AR (I x13),[]⟩] [[],[18],[20],[],[23],[26]] 3 z (by kernel_rfl) (by kernel_rfl) z ?_ ?_
      ·refine Am z ?_ ?_
       ·intro w15 hB14
        refine Aw<|⟨_,z,?_⟩
        exact Ai z z<|Aq (hC12.grow hB14) 0 z z AU z z<|Ab<|A0 (An _ _) z z ⟨z,z⟩
       refine Am z ?_ ?_
       ·intro w15 hB14
        refine A7 z z z ?_
        rintro _ _ ⟨rfl,rfl⟩ _
        refine Aw<|⟨_,z,?_⟩
        exact Ai z z<|AZ Ap ty3 g2 hx3 z z z fun b4 o3 h5=>Ab<|A0 (An _ _) z z ⟨z,_,_,z,h5⟩
       refine Am z ?_ ?_
       ·intro w15 hB14
        refine A7 z z z ?_
        rintro _ _ ⟨rfl,b4,o3,rfl,h5⟩ _
        refine Aw<|⟨_,z,?_⟩
        refine Ai z z<|Be ty3 h5 (hC12.keep.then hB14) z z fun v3 h6=>?_
        obtain rfl:=BJ h6
        exact Ab<|A0 (An _ _) z z ⟨z,z⟩
       refine Am z ?_ ?_
       ·intro w15 hB14
        refine Aw<|⟨_,z,?_⟩
        exact Ai z z<|Aq (hC12.grow hB14) 0 z z AU z z<|Ab<|A0 (An _ _) z z ⟨z,z⟩
       refine Am z ?_ ?_
       ·intro w15 hB14
        refine A7 z z z ?_
        rintro _ _ ⟨rfl,rfl⟩ _
        refine Aw<|⟨_,z,?_⟩
        exact Ai z z<|AZ Ap ty3 g2 hx4 z z z fun b5 o4 h7=>Ab<|A0 (An _ _) z z ⟨z,_,_,z,h7⟩
       refine Am z ?_ ?_
       ·intro w15 hB14
        refine A7 z z z ?_
        rintro _ _ ⟨rfl,b5,o4,rfl,h7⟩ _
        refine Aw<|⟨_,z,?_⟩
        refine Ai z z<|Be ty3 h7 (hC12.keep.then hB14) z z fun v4 h8=>?_
        obtain rfl:=BJ h8
        exact Ab<|A0 (An _ _) z z ⟨z,z⟩
       exact Ba
      intro w16 hB15
      refine Au z z z ?_
      rintro _ _ ⟨rfl,rfl⟩
      refine Au z z z ?_
      rintro _ _ ⟨rfl,b4,o3,rfl,h5⟩
      refine Au z z z ?_
      rintro _ _ ⟨rfl,rfl⟩
      refine Au z z z ?_
      rintro _ _ ⟨rfl,rfl⟩
      refine Au z z z ?_
      rintro _ _ ⟨rfl,b5,o4,rfl,h7⟩
      refine Au z z z ?_
      rintro _ _ ⟨rfl,rfl⟩
      refine Bh fun hn2 hb2=>have hC13:=hC12.grow hB15;tg 28 z z z z (fl_leq z z)<|Ai z z<|CE z z z<|Ab<|tg 29 z z z z (fl_pick_t z z)<|Ai z z<|AI z z z<|Ab<|tq 30 z z z z<|dn<|?_
      obtain rfl:=Aa hr8
      exact Ay (l':=[(0,u1),(3,(ptr b1 0)),(5,(I x7)),(73,(.bool (decide (x12 ≤ x13))))]) ⟨z,z,z,z,Ak⟩<|⟨(decide (x12 ≤ x13)),z,z,((((Al hB10).then hB12).then hB13).then hB15).below,hC13⟩
     replace hr8:=AE hr8 hc8
     refine sk 17 z z z z z<|sk 18 z z z z z<|sk 19 z z z z z<|sk 20 z z z z z<|sk 21 z z z z z<|sk 22 z z z z z<|sk 23 z z z z z<|sk 24 z z z z z<|sk 25 z z z z z<|sk 26 z z z z z<|sk 27 z z z z z<|sk 28 z z z z z<|tg 29 z z z z (fl_pick_f z z)<|Ai z z<|AY z z z<|Ab<|tq 30 z z z z<|dn<|?_
     obtain rfl:=Aa hr8
     exact Ay (l':=[(0,u1),(3,(ptr b1 0)),(5,(I x7)),(73,(.bool false))]) ⟨z,z,z,z,Ak⟩<|⟨false,z,z,(((Al hB10).then hB12).then hB13).below,hC12⟩
    rintro _ w10 ⟨x8,rfl,rfl,hB9,hC9⟩
    try dsimp only at hL1
    refine AL z (fun hc9=>?_) (fun hc9=>?_)
    ·replace hL1:=AD hL1 hc9
     refine Ad<|Af z z<|Ab<|AK<|Bu<|A2<|A2<|Bu<|A2<|A2<|?_
     obtain rfl:=Aa hL1
     dsimp only at hF
     obtain rfl:=Aa hF
     exact AB z z<|⟨_,z,Bf hC9 _⟩
    replace hL1:=AE hL1 hc9
    exact AM<|Bg<|Av<|Bt<|Ae z z<|Bw z z z<|Af z z<|Ab<|Ay (l':=[(0,u1),(3,(ptr b1 0)),(5,(I (w64 (x7+1))))]) ⟨z,z,z,Ak⟩<|⟨k1,AO _,w64 (x7+1),z,((Al hB8).then hB9).below,hC9,hL1⟩
   replace hL1:=AE hL1 hc6
   refine BF (AW (AW (B4 ?_)))
   obtain rfl:=Aa hL1
   have hC14:=hC8.h0
   exact Ay (l':=[]) Ak<|⟨z,z,(Al hB8).below,hC14⟩
 rintro l4 _ w17 hs4 ⟨rfl,rfl,hB16,hC15⟩
 try dsimp only at hF
 refine Bm hs4 ?_
 clear hs4
 refine Ad<|Af z z<|Ab<|AK<|?_
 obtain rfl:=Aa hF
 exact AB z z<|⟨_,z,Bf hC15 _⟩
theorem c_S_AreMethods {w0:World} (a1:(List Int)) (u1:Value) (g1:RO [] w0 u1 a1) (a2:(List (Int × (List Int) × Int × Int × Int))) (u2:Value) (g2:RO [] w0 u2 a2) (rr:Bool) (hF:S.AreMethods a1 a2=some rr) :
 Calls Tryz.prog 83 [u1,u2].toArray w0 fun e w'=>∃v,e=.returned v∧Res w0 rr v w':=by
 refine A3 Tryz.func83 z z ?_
 have hC0:=AH w0
 unfold S.AreMethods at hF
 refine Ad<|Af z z<|Ab<|AA<|Ad<|Af z z<|Ab<|be hF fun r1 hr1 hF=>Bx (fun l w=>.inl ()=r1∧l=[(0,u1),(1,u2)]∧Below w0.heap.size w0 w∧Ctx [] w0 w []) ?_ ?_
 ·refine Bb<|wS (l':=[(0,u1),(1,u2),(5,(I 0))]) ⟨z,z,z,Ak⟩<|BE (fun k l w=>∃x1:Int,l=[(0,u1),(1,u2),(5,(I x1))]∧Below w0.heap.size w0 w∧Ctx [] w0 w []∧S.AreMethods_l1 a2 a1 k x1=some r1) FUEL ⟨0,z,(An _ _),hC0,hr1⟩<|?_
  clear hr1
  rintro k1 _ w1 ⟨x1,rfl,hB1,hC1,hL1⟩
  cases k1 with
  | zero=>rw [S.AreMethods_l1] at hL1; cases hL1
  | succ k1 =>
   rw [S.AreMethods_l1] at hL1
   refine AA<|Ad<|Ae z z<|Ae z z<|Bo Bi g2 z z<|B8 z z z<|Ab<|AL z (fun hc1=>?_) (fun hc1=>?_)
   ·replace hL1:=AD hL1 hc1
    refine AM<|Av<|AA<|Bb<|Ad<|Ae z z<|Ae z z<|Ae z z<|be hL1 fun x2 hx1 hL1=>AZ Bi ty93 g2 hx1 z z z fun b1 o1 h1=>Be ty93 h1 hC1.keep z z fun v1 h2=>?_
    obtain ⟨v2,rfl,h3⟩:=CN h2
    refine be hL1 fun x3 hr2 hL1=>cb Tryz.call103 z z (c_S_IsMethod a1 u1 (g1.now hC1.keep) x2 v2 (h3.now hC1.keep) x3 hr2) fun w2 hB2=>have hC2:=hC1.grow hB2;B2 z z<|Ab<|AL z (fun hc2=>?_) (fun hc2=>?_)
    ·replace hL1:=AD hL1 hc2
     refine Ad<|Af z z<|Ab<|AK<|Bu<|A2<|A2<|Bu<|A2<|A2<|?_
     obtain rfl:=Aa hL1
     dsimp only at hF
     obtain rfl:=Aa hF
     exact AB z z<|⟨_,z,Bf hC2 _⟩
    replace hL1:=AE hL1 hc2
    exact AM<|Bg<|Av<|Bt<|Ae z z<|Bw z z z<|Af z z<|Ab<|Ay (l':=[(0,u1),(1,u2),(5,(I (w64 (x1+1))))]) ⟨z,z,z,Ak⟩<|⟨k1,AO _,w64 (x1+1),z,((Al hB1).then hB2).below,hC2,hL1⟩
   replace hL1:=AE hL1 hc1
   refine BF (AW (AW (B4 ?_)))
   obtain rfl:=Aa hL1
   exact Ay (l':=[(0,u1),(1,u2)]) ⟨z,z,Ak⟩<|⟨z,z,(Al hB1).below,hC1⟩
 rintro l2 _ w3 hs2 ⟨rfl,rfl,hB3,hC3⟩
 try dsimp only at hF
 refine Bm hs2 ?_
 clear hs2
 refine be hF fun r2 hr3 hF=>BL (fun l w=>∃x4:Bool,x4=r2∧l=[(4,(.bool x4))]∧Below w3.heap.size w3 w∧Ctx [] w0 w []) ?_ ?_
 ·refine Bt<|Ae z z<|be hr3 fun x5 hr4 hr3=>cb Cm z z (c_S_IsSchema a1 u1 (g1.now hC3.keep) x5 hr4) fun w5 hB5=>have hC5:=hC3.grow hB5;Ae z z<|B3 (fun hc3=>?_) (fun hc3=>?_)
  ·replace hr3:=AD hr3 hc3
   refine Ai z z<|Ae z z<|Ai z z<|Bo Bi g2 z z<|Ai z z<|CE z z z<|AI z z z<|Af z z<|Ab<|?_
   obtain rfl:=Aa hr3
   exact Ay (l':=[(4,(.bool (decide ((List.length a2:Int) ≤ 5))))]) ⟨z,Ak⟩<|⟨(decide ((List.length a2:Int) ≤ 5)),z,z,(Al hB5).below,hC5⟩
  replace hr3:=AE hr3 hc3
  refine gs z z z z<|gs z z z z<|gs z z z z<|AY z z z<|Af z z<|Ab<|?_
  obtain rfl:=Aa hr3
  exact Ay (l':=[(4,(.bool false))]) ⟨z,Ak⟩<|⟨false,z,z,(Al hB5).below,hC5⟩
 rintro _ w4 ⟨x4,rfl,rfl,hB4,hC4⟩
 try dsimp only at hF
 refine AK ?_
 obtain rfl:=Aa hF
 exact AB z z<|⟨_,z,Bf hC4 _⟩
theorem c_S_IsAccess {w0:World} (a1:(List Int)) (u1:Value) (g1:RO [] w0 u1 a1) (a2:(List (Int × (List Int) × Int × Int × Int))) (u2:Value) (g2:RO [] w0 u2 a2) (a3:(Int × (List Int))) (u3:Value) (g3:RO [] w0 u3 a3.2) (rr:Bool) (hF:S.IsAccess a1 a2 a3=some rr) :
 Calls Tryz.prog 52 [u1,u2,(.agg #[(I a3.1),u3])].toArray w0 fun e w'=>∃v,e=.returned v∧Res w0 rr v w':=by
 refine A3 Tryz.func52 z z ?_
 have hC0:=AH w0
 unfold S.IsAccess at hF
 refine Ad<|Bz (cs:=[(I a3.1),u3]) hC0 z z z fun b1 w1 hC1 hB1 hN1=>Af z z<|Ab<|AA<|be hF fun r1 hr1 hF=>BL (fun l w=>∃x1:Bool,x1=r1∧l=[(5,(ptr b1 0)),(33,(.bool x1))]∧Below w1.heap.size w1 w∧Ctx [] w0 w [Ac b1 [(I a3.1),u3]]) ?_ ?_
 ·refine W_drawn 26 z hmix fun w3 hB3=>have hC3:=hC1.grow hB3;tm 0 z z z<|tm 1 z z z<|be hr1 fun x2 hr2 hr1=>oe 2 z<|cb Tryz.call83 z z (c_S_AreMethods a1 u1 (g1.now hC3.keep) a2 u2 (g2.now hC3.keep) x2 hr2) fun w4 hB4=>have hC4:=hC3.grow hB4;Ab<|tk 3 z z (CG z)<|B2 z z<|Ab<|tm 4 z z z<|BO (fun hc1=>?_) (fun hc1=>?_)
  ·replace hr1:=AD hr1 hc1
   refine sk 5 z z z z z<|sk 6 z z z z z<|sk 7 z z z z z<|sk 8 z z z z z<|sk 9 z z z z z<|sk 10 z z z z z<|sk 11 z z z z z<|tp 12 z z z z<|tm 13 z z z<|sk 14 z z z z z<|sk 15 z z z z z<|sk 16 z z z z z<|sk 17 z z z z z<|sk 18 z z z z z<|sk 19 z z z z z<|sk 20 z z z z z<|sk 21 z z z z z<|sk 22 z z z z z<|sk 23 z z z z z<|sk 24 z z z z z<|tp 25 z z z z<|dn<|?_
   obtain rfl:=Aa hr1
   exact Ay (l':=[(5,(ptr b1 0)),(33,(.bool true))]) ⟨z,z,Ak⟩<|⟨true,z,z,((Al hB3).then hB4).below,hC4⟩
  replace hr1:=AE hr1 hc1
  refine tg 5 z z z z (BB AV z z (fun w=>⟨_,Ax w⟩) z)<|Ai z z<|fd AV Ax z z z z<|Ab<|tn 7 z z z z z<|tg 8 z z z z (CO Bi g2 z)<|Ai z z<|Bo Bi g2 z z<|Ab<|tg 9 z z z z (Cz z z)<|Ai z z<|BV z z z<|Ab<|oe 6 z<|Ai z z<|Aq hC4 0 z z A6 z z<|Ab<|be hr1 fun x3 hr3 hr1=>oe 10 z<|Ai z z<|cb B9 z z (c_S_l1In a3.1 0 (w64 ((List.length a2:Int) - 1)) x3 hr3) fun w5 hB5=>have hC5:=hC4.grow hB5;Ab<|tg 11 z z z z (CG z)<|Ai z z<|B2 z z<|Ab<|tq 12 z z z z<|tm 13 z z z<|BO (fun hc2=>?_) (fun hc2=>?_)
  ·replace hr1:=AD hr1 hc2
   refine sk 14 z z z z z<|sk 15 z z z z z<|sk 16 z z z z z<|sk 17 z z z z z<|sk 18 z z z z z<|sk 19 z z z z z<|sk 20 z z z z z<|sk 21 z z z z z<|sk 22 z z z z z<|sk 23 z z z z z<|sk 24 z z z z z<|tp 25 z z z z<|dn<|?_
   obtain rfl:=Aa hr1
   exact Ay (l':=[(5,(ptr b1 0)),(33,(.bool true))]) ⟨z,z,Ak⟩<|⟨true,z,z,(((Al hB3).then hB4).then hB5).below,hC5⟩
  replace hr1:=AE hr1 hc2
  refine tg 14 z z z z (BB AV z z (fun w=>⟨_,A4 w⟩) z)<|Ai z z<|fd AV A4 z z z z<|Ab<|tn 17 z z z z z<|tg 18 z z z z (BB AV z z (fun w=>⟨_,Ax w⟩) z)<|Ai z z<|fd AV Ax z z z z<|Ab<|be hr1 fun x4 hx1 hr1=>wAS (l':=[(0,u1),(1,u2),(2,(.agg #[(I a3.1),u3])),(5,(ptr b1 0)),(6,(.bool false)),(8,u1),(9,u2),(10,(.bool x2)),(11,(.bool (!x2))),(12,(.bool false)),(13,(ptr b1 0)),(14,(I a3.1)),(15,u2),(16,(I (List.length a2:Int))),(17,(I (w64 ((List.length a2:Int) - 1)))),(18,(.bool x3)),(19,(.bool (!x3))),(20,(.bool (!x3))),(21,(.bool false)),(22,(ptr b1 1)),(25,u2),(26,(ptr b1 0))]) ⟨z,z,z,z,z,z,z,z,z,z,z,z,z,z,z,z,z,z,z,z,z,z,Ak⟩<|Bq [⟨15,[],fun vs=>AR u3,[]⟩,⟨16,[],fun vs=>AR (I (List.length a3.2:Int)),[]⟩,⟨19,[],fun vs=>AR (I a3.1),[]⟩,⟨20,[],fun vs=>Cc [] w0 x4,[]⟩,⟨21,[],fun vs=>Cc [] w0 x4.2.1,[]⟩,⟨22,[],fun vs=>Cs [] w0 x4.2.1,[]⟩,⟨23,[],fun vs=>AR (I (List.length x4.2.1:Int)),[]⟩] [[],[15],[],[19],[20],[21],[22]] 2 z (by kernel_rfl) (by kernel_rfl) z ?_ ?_
  ·refine Am z ?_ ?_
   ·intro w6 hB6
    refine Aw<|⟨_,z,?_⟩
    exact Ai z z<|Aq (hC5.grow hB6) 0 z z AU z z<|Ab<|A0 (An _ _) z z ⟨z,z⟩
   refine Am z ?_ ?_
   ·intro w6 hB6
    refine A7 z z z ?_
    rintro _ _ ⟨rfl,rfl⟩ _
    refine Aw<|⟨_,z,?_⟩
    exact Ai z z<|Bo Ap g3 z z<|Ab<|A0 (An _ _) z z ⟨z,z⟩
   refine Am z ?_ ?_
   ·intro w6 hB6
    refine Aw<|⟨_,z,?_⟩
    exact Ai z z<|Aq (hC5.grow hB6) 0 z z A6 z z<|Ab<|A0 (An _ _) z z ⟨z,z⟩
   refine Am z ?_ ?_
   ·intro w6 hB6
    refine A7 z z z ?_
    rintro _ _ ⟨rfl,rfl⟩ _
    refine Aw<|⟨_,z,?_⟩
    exact Ai z z<|AZ Bi ty93 g2 hx1 z z z fun b2 o1 h1=>Ab<|A0 (An _ _) z z ⟨z,_,_,z,h1⟩
   refine Am z ?_ ?_
   ·intro w6 hB6
    refine A7 z z z ?_
    rintro _ _ ⟨rfl,b2,o1,rfl,h1⟩ _
    refine Aw<|⟨_,z,?_⟩
    exact Ai z z<|fd AP A4 z z z z<|Ab<|A0 (An _ _) z z ⟨z,_,_,z,h1.snd.fst⟩
   refine Am z ?_ ?_
   ·intro w6 hB6
    refine A7 z z z ?_
    rintro _ _ ⟨rfl,b3,o2,rfl,h2⟩ _
    refine Aw<|⟨_,z,?_⟩
    exact Ai z z<|Be ty24 h2 (hC5.keep.then hB6) z z fun v1 h3=>Ab<|A0 (An _ _) z z ⟨z,h3⟩
   refine Am z ?_ ?_
   ·intro w6 hB6
    refine A7 z z z ?_
    rintro v1 _ ⟨rfl,h3⟩ _
    refine Aw<|⟨_,z,?_⟩
    exact Ai z z<|Bo Ap h3 z z<|Ab<|A0 (An _ _) z z ⟨z,z⟩
   exact Ba
  intro w7 hB7
  refine Au z z z ?_
  rintro _ _ ⟨rfl,rfl⟩
  refine Au z z z ?_
  rintro _ _ ⟨rfl,rfl⟩
  refine Au z z z ?_
  rintro _ _ ⟨rfl,rfl⟩
  refine Au z z z ?_
  rintro _ _ ⟨rfl,b2,o1,rfl,h1⟩
  refine Au z z z ?_
  rintro _ _ ⟨rfl,b3,o2,rfl,h2⟩
  refine Au z z z ?_
  rintro v1 _ ⟨rfl,h3⟩
  refine Au z z z ?_
  rintro _ _ ⟨rfl,rfl⟩
  refine Bh fun hn1 hb1=>have hC6:=hC5.grow hB7;tg 24 z z z z (fl_neq z z)<|Ai z z<|Cl z z z<|Ab<|tq 25 z z z z<|dn<|?_
  obtain rfl:=Aa hr1
  exact Ay (l':=[(5,(ptr b1 0)),(33,(.bool (!decide ((List.length a3.2:Int)=(List.length x4.2.1:Int)))))]) ⟨z,z,Ak⟩<|⟨(!decide ((List.length a3.2:Int)=(List.length x4.2.1:Int))),z,z,((((Al hB3).then hB4).then hB5).then hB7).below,hC6⟩
 rintro _ w2 ⟨x1,rfl,rfl,hB2,hC2⟩
 try dsimp only at hF
 refine AL z (fun hc3=>?_) (fun hc3=>?_)
 ·replace hF:=AD hF hc3
  refine Ad<|Af z z<|Ab<|AK<|A2<|?_
  obtain rfl:=Aa hF
  exact AB z z<|⟨_,z,Bf hC2 _⟩
 replace hF:=AE hF hc3
 refine AM<|Av<|AA<|Ad<|Af z z<|Ab<|be hF fun r2 hr4 hF=>Bx (fun l w=>.inl ()=r2∧l=[]∧Below w2.heap.size w2 w∧Ctx [] w0 w []) ?_ ?_
 ·refine Bb<|wS (l':=[(5,(ptr b1 0)),(7,(I 0))]) ⟨z,z,Ak⟩<|BE (fun k l w=>∃x5:Int,l=[(5,(ptr b1 0)),(7,(I x5))]∧Below w2.heap.size w2 w∧Ctx [] w0 w [Ac b1 [(I a3.1),u3]]∧S.IsAccess_l1 a3 k x5=some r2) FUEL ⟨0,z,(An _ _),hC2,hr4⟩<|?_
  clear hr4
  rintro k1 _ w9 ⟨x5,rfl,hB8,hC7,hL1⟩
  cases k1 with
  | zero=>rw [S.IsAccess_l1] at hL1; cases hL1
  | succ k1 =>
   rw [S.IsAccess_l1] at hL1
   refine AA<|Ad<|Ae z z<|fd AV A4 z z z z<|Aq hC7 0 z z AU z z<|Bo Ap g3 z z<|B8 z z z<|Ab<|AL z (fun hc4=>?_) (fun hc4=>?_)
   ·replace hL1:=AD hL1 hc4
    refine AM<|Av<|AA<|Bb<|Ad<|fd AV A4 z z z z<|Aq hC7 0 z z AU z z<|Ae z z<|be hL1 fun x6 hx2 hL1=>AZ Ap ty3 g3 hx2 z z z fun b4 o3 h4=>Be ty3 h4 hC7.keep z z fun v2 h5=>?_
    obtain rfl:=BJ h5
    refine be hL1 fun x7 hr5 hL1=>cb B9 z z (c_S_l1In x6 0 9 x7 hr5) fun w10 hB9=>have hC8:=hC7.grow hB9;B2 z z<|Ab<|AL z (fun hc5=>?_) (fun hc5=>?_)
    ·replace hL1:=AD hL1 hc5
     refine Ad<|Af z z<|Ab<|AK<|Bu<|A2<|A2<|Bu<|A2<|A2<|?_
     obtain rfl:=Aa hL1
     dsimp only at hF
     obtain rfl:=Aa hF
     exact AB z z<|⟨_,z,Bf hC8 _⟩
    replace hL1:=AE hL1 hc5
    exact AM<|Bg<|Av<|Bt<|Ae z z<|Bw z z z<|Af z z<|Ab<|Ay (l':=[(5,(ptr b1 0)),(7,(I (w64 (x5+1))))]) ⟨z,z,Ak⟩<|⟨k1,AO _,w64 (x5+1),z,((Al hB8).then hB9).below,hC8,hL1⟩
   replace hL1:=AE hL1 hc4
   refine BF (AW (AW (B4 ?_)))
   obtain rfl:=Aa hL1
   have hC9:=hC7.h0
   exact Ay (l':=[]) Ak<|⟨z,z,(Al hB8).below,hC9⟩
 rintro l3 _ w11 hs3 ⟨rfl,rfl,hB10,hC10⟩
 try dsimp only at hF
 refine Bm hs3 ?_
 clear hs3
 refine Ad<|Af z z<|Ab<|AK<|?_
 obtain rfl:=Aa hF
 exact AB z z<|⟨_,z,Bf hC10 _⟩
theorem c_S_l8Access {w0:World} (a1:Int) (a2:(List Int)) (u1:Value) (g1:RO [] w0 u1 a2) (rr:(Int × (List Int))) (hF:S.l8Access a1 a2=some rr) :
 Calls Tryz.prog 53 [(I a1),u1].toArray w0 fun e w'=>∃v,e=.returned v∧Res w0 rr v w':=by
 refine A3 Tryz.func53 z z ?_
 have hC0:=AH w0
 unfold S.l8Access at hF
 refine Ad<|Bd hC0 zero45 z z fun b1 w1 hC1 hB1 hN1=>Ab<|Ad<|Ae z z<|AN (vs:=[]) hC1 Ap ty3 z z z z (by simp) z z fun b2 w2 hC2 hB2=>?_
 have hC3:=hC2.row0 (α:=Int)
 have hC4:=hC3.front 1 z
 dsimp only [List.eraseIdx,List.cons_append,List.nil_append,List.append_nil] at hC4
 have hC5:Ctx [] w0 w2 (Ag (.slice (some ⟨b2,0,none⟩) 0 0) (([]:List Int):List Int)::[Ac b1 [(I 0),(.slice none 0 0)]]):=hC4.rowOwn (by simp [maxLen])
 refine Ae z z<|be hF fun x1 hx1 hF=>BN (α:=Int) hC5 0 z g1 hC5.keep Ap ty3 z hx1 z z z fun v1 w3 hC6=>?_
 try dsimp only [List.set] at hC6
 refine BD (vs:=[(0,(I a1)),(1,v1)]) z z z (built45_0_1 z (Ca (hC6.ro 0 z)))<|Aj (cs':=[(I a1),v1]) (new:=[(I a1),v1]) hC6 1 z z (fac z<|fac (AT (hC6.ro 0 z))<|fa0) z A9 z z fun w4 hC7 hKp1=>?_
 try dsimp only [List.set] at hC7
 refine Ab (AK ?_)
 obtain rfl:=Aa hF
 refine BR z (rv_cell_agg (cs':=[(I a1),v1]) hC7 (i:=1) z z z Bl A9 z) ?_
 have hC8:=own_st45 a1 v1 x1 hC7
 exact ⟨_,z,Cf hC8 0 z⟩
end Go.Gx.Px
