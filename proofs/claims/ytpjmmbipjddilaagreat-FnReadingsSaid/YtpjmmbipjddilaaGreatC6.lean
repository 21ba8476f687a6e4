/- The contracts of the Go functions against the pure functions, printed by program. Conditions: each says them. -/
import Derived.Test.YtpjmmbipjddilaaGreatC5
set_option linter.unusedVariables false
set_option linter.unusedSimpArgs false
set_option maxRecDepth 100000
set_option maxHeartbeats 4000000
namespace Go.Gx.Px
open Go.Proofs Go.RowKit
open K9
theorem c_Q_FnReadings {w0:World} (a1:(List UInt8)) (u1:Value) (g1:RO [] w0 u1 a1) (rr:Bool) (hF:Q.FnReadings a1=some rr) :
 Calls Tryz.prog 4 [u1].toArray w0 fun e w'=>∃v,e=.returned v∧Res w0 rr v w':=by
 refine A3 Tryz.func4 z z ?_
 have hC0:=AH w0
 unfold Q.FnReadings at hF
 refine Ad<|Af z z<|Ab<|AA<|Ad<|Ae z z<|be hF fun x1 hr1 hF=>cb Tryz.call5 z z (c_Q_big a1 u1 (g1.now hC0.keep) x1 hr1) fun w1 hB1=>have hC1:=hC0.grow hB1;Ab<|AL z (fun hc1=>?_) (fun hc1=>?_)
 ·replace hF:=AD hF hc1
  refine Ad<|Af z z<|Ab<|AK<|A2<|?_
  obtain rfl:=Aa hF
  exact AB z z<|⟨_,z,Bf hC1 _⟩
 replace hF:=AE hF hc1
 refine AM<|Av<|Ad<|Ae z z<|be hF fun x2 hr2 hF=>AJ Tryz.call22 z z (c_S_DrawReadThrough a1 u1 (g1.now hC1.keep) x2 hr2)<|?_
 rintro _ w2 ⟨v1,v2,v3,v4,v5,rfl,hB2,h1,h2,h3,h4,h5⟩
 have hC2:=hC1.grow hB2
 refine Ae z z<|Bn z z z<|Bn z z z<|Bn z z z<|Bn z z z<|Bn z z z<|Bn z z z<|Bn z z z<|Bd hC2 zero27 z z fun b1 w3 hC3 hB3 hN1=>Bd hC3 zero45 z z fun b2 w4 hC4 hB4 hN2=>Af z z<|Af z z<|Aj (cs':=[v3,(I x2.2.2.1.2)]) (new:=[v3,(I x2.2.2.1.2)]) hC4 1 z z (fac (AT h3)<|fac z<|fa0) z Az z z fun w5 hC5 hKp1=>?_
 try dsimp only [List.set] at hC5
 have hk1:=Ar ((((Al hB1).then hB2).then hB3).then hB4) (Ao ((Al hB1).then hB2).size hN1) hKp1
 have hk2:=Ar (((Al hB2).then hB3).then hB4) (Ao (Al hB2).size hN1) hKp1
 have hk3:=Ar ((Al hB3).then hB4) hN1 hKp1
 refine Aj (cs':=[(I x2.2.2.2.1.1),v4]) (new:=[(I x2.2.2.2.1.1),v4]) hC5 0 z z (fac z<|fac (AT h4)<|fa0) z A9 z z (fun w6 hC6 hKp2=>?_)
 try dsimp only [List.set] at hC6
 have hk4:=Ar hk1 (Ao (((Al hB1).then hB2).then hB3).size hN2) hKp2
 have hk5:=Ar hk2 (Ao ((Al hB2).then hB3).size hN2) hKp2
 have hk6:=Ar hk3 (Ao (Al hB3).size hN2) hKp2
 refine Af z z<|Af z z<|Af z z<|Ab<|Ad<|Ae z z<|Ae z z<|At [v3,(I x2.2.2.1.2)] hC6 1 z z z A8 Az z z<|At [(I x2.2.2.2.1.1),v4] hC6 0 z z z Bl A9 z z<|Ae z z<|Ae z z<|Ae z z<|be hF fun x3 hr3 hF=>AJ Tryz.call23 z z (c_M_ReadThrough x2.1 v1 (h1.now hk6) x2.2.1 v2 (h2.now hk6) (x2.2.2.1.1,x2.2.2.1.2) v3 (h3.now hk6) (x2.2.2.2.1.1,x2.2.2.2.1.2) v4 (h4.now hk6) x2.2.2.2.2.1 x2.2.2.2.2.2.1 v5 (h5.now hk6) x2.2.2.2.2.2.2 x3 hr3)<|?_
 rintro _ w7 ⟨hB5,v6,v7,F1,F2,rfl,hv2,hv3,hn2,hb2⟩
 have hC7:=hC6.pushL hB5 (Bs:=[Ag v6 x3.1,Ag v7 x3.2]) (Fs:=[F1,F2]) ⟨F1,_,z,hv2,F2,_,z,hv3,z⟩ (by simpa using hn2) (fun b h=>hb2 b (by simpa using h))
 obtain ⟨v8,rfl,hC8⟩:=st59_own hC7
 have hC9:=hC8.f1
 obtain ⟨v9,rfl,hC10⟩:=st27_own hC9
 refine Ae z z<|Bn z z z<|Bn z z z<|Bd hC10 zero59 z z fun b3 w9 hC11 hB6 hN3=>Bd hC11 zero27 z z fun b4 w10 hC12 hB7 hN4=>Aj (cs':=[v8,(I x3.1.2.1),(I x3.1.2.2.1),(I x3.1.2.2.2.1),(.bool x3.1.2.2.2.2)]) (new:=[v8,(I x3.1.2.1),(I x3.1.2.2.1),(I x3.1.2.2.2.1),(.bool x3.1.2.2.2.2)]) hC12 1 z z (fac (AT (hC12.ro 3 z))<|fac z<|fac z<|fac z<|fac z<|fa0) z Bj z z fun w11 hC13 hKp3=>?_
 try dsimp only [List.set] at hC13
 have hk7:=Ar (((hk4.then hB5).then hB6).then hB7) (Ao (hk4.then hB5).size hN3) hKp3
 have hk8:=Ar (((hk5.then hB5).then hB6).then hB7) (Ao (hk5.then hB5).size hN3) hKp3
 have hk9:=Ar (((hk6.then hB5).then hB6).then hB7) (Ao (hk6.then hB5).size hN3) hKp3
 have hk10:=Ar (((Al hB5).then hB6).then hB7) (Ao (Al hB5).size hN3) hKp3
 have hk11:=Ar ((Al hB6).then hB7) hN3 hKp3
 refine Aj (cs':=[v9,(I x3.2.2)]) (new:=[v9,(I x3.2.2)]) hC13 0 z z (fac (AT (hC13.ro 2 z))<|fac z<|fa0) z Az z z (fun w12 hC14 hKp4=>?_)
 try dsimp only [List.set] at hC14
 have hk12:=Ar hk7 (Ao ((hk4.then hB5).then hB6).size hN4) hKp4
 have hk13:=Ar hk8 (Ao ((hk5.then hB5).then hB6).size hN4) hKp4
 have hk14:=Ar hk9 (Ao ((hk6.then hB5).then hB6).size hN4) hKp4
 have hk15:=Ar hk10 (Ao ((Al hB5).then hB6).size hN4) hKp4
 have hk16:=Ar hk11 (Ao (Al hB6).size hN4) hKp4
 refine Ab<|Ad<|Ae z z<|Ae z z<|At [v3,(I x2.2.2.1.2)] hC14 5 z z z A8 Az z z<|At [(I x2.2.2.2.1.1),v4] hC14 4 z z z Bl A9 z z<|Ae z z<|Ae z z<|Ae z z<|be hF fun x4 hr4 hF=>AJ Tryz.call24 z z (c_S_ReadThrough x2.1 v1 (h1.now hk14) x2.2.1 v2 (h2.now hk14) (x2.2.2.1.1,x2.2.2.1.2) v3 (h3.now hk14) (x2.2.2.2.1.1,x2.2.2.2.1.2) v4 (h4.now hk14) x2.2.2.2.2.1 x2.2.2.2.2.2.1 v5 (h5.now hk14) x2.2.2.2.2.2.2 x4 hr4)<|?_
 rintro _ w13 ⟨hB8,v10,v11,F3,F4,rfl,hv4,hv5,hn3,hb3⟩
 have hC15:=hC14.pushL hB8 (Bs:=[Ag v10 x4.1,Ag v11 x4.2]) (Fs:=[F3,F4]) ⟨F3,_,z,hv4,F4,_,z,hv5,z⟩ (by simpa using hn3) (fun b h=>hb3 b (by simpa using h))
 obtain ⟨v12,rfl,hC16⟩:=st59_own hC15
 have hC17:=hC16.f1
 obtain ⟨v13,rfl,hC18⟩:=st27_own hC17
 refine Ae z z<|Bn z z z<|Bn z z z<|Bd hC18 zero59 z z fun b5 w14 hC19 hB9 hN5=>Bd hC19 zero27 z z fun b6 w15 hC20 hB10 hN6=>Aj (cs':=[v12,(I x4.1.2.1),(I x4.1.2.2.1),(I x4.1.2.2.2.1),(.bool x4.1.2.2.2.2)]) (new:=[v12,(I x4.1.2.1),(I x4.1.2.2.1),(I x4.1.2.2.2.1),(.bool x4.1.2.2.2.2)]) hC20 1 z z (fac (AT (hC20.ro 3 z))<|fac z<|fac z<|fac z<|fac z<|fa0) z Bj z z fun w16 hC21 hKp5=>?_
 try dsimp only [List.set] at hC21
 have hk17:=Ar (((hk12.then hB8).then hB9).then hB10) (Ao (hk12.then hB8).size hN5) hKp5
 have hk18:=Ar (((hk13.then hB8).then hB9).then hB10) (Ao (hk13.then hB8).size hN5) hKp5
 have hk19:=Ar (((hk14.then hB8).then hB9).then hB10) (Ao (hk14.then hB8).size hN5) hKp5
 have hk20:=Ar (((hk15.then hB8).then hB9).then hB10) (Ao (hk15.then hB8).size hN5) hKp5
 have hk21:=Ar (((hk16.then hB8).then hB9).then hB10) (Ao (hk16.then hB8).size hN5) hKp5
 have hk22:=Ar (((Al hB8).then hB9).then hB10) (Ao (Al hB8).size hN5) hKp5
 have hk23:=Ar ((Al hB9).then hB10) hN5 hKp5
 refine Aj (cs':=[v13,(I x4.2.2)]) (new:=[v13,(I x4.2.2)]) hC21 0 z z (fac (AT (hC21.ro 2 z))<|fac z<|fa0) z Az z z (fun w17 hC22 hKp6=>?_)
 try dsimp only [List.set] at hC22
 have hk24:=Ar hk17 (Ao ((hk12.then hB8).then hB9).size hN6) hKp6
 have hk25:=Ar hk18 (Ao ((hk13.then hB8).then hB9).size hN6) hKp6
 have hk26:=Ar hk19 (Ao ((hk14.then hB8).then hB9).size hN6) hKp6
 have hk27:=Ar hk20 (Ao ((hk15.then hB8).then hB9).size hN6) hKp6
 have hk28:=Ar hk21 (Ao ((hk16.then hB8).then hB9).size hN6) hKp6
 have hk29:=Ar hk22 (Ao ((Al hB8).then hB9).size hN6) hKp6
 have hk30:=Ar hk23 (Ao (Al hB9).size hN6) hKp6
 refine Ab<|AA<|be hF fun r1 hr5 hF=>BL (fun l w=>∃x5:Bool,x5=r1∧l=[(3,v1),(4,v2),(6,(ptr b2 0)),(7,(I x2.2.2.2.2.1)),(9,(I x2.2.2.2.2.2.2)),(10,(ptr b3 0)),(12,(ptr b5 0)),(13,(ptr b6 0)),(96,(.bool x5))]∧Below w17.heap.size w17 w∧Ctx [] w0 w [Ac b6 [v13,(I x4.2.2)],Ac b5 [v12,(I x4.1.2.1),(I x4.1.2.2.1),(I x4.1.2.2.2.1),(.bool x4.1.2.2.2.2)],Ag v13 (x4.2.1:(List (Int × (List Int)))),Ag v12 (x4.1.1:(List (Int × (List Int)))),Ac b3 [v8,(I x3.1.2.1),(I x3.1.2.2.1),(I x3.1.2.2.2.1),(.bool x3.1.2.2.2.2)],Ag v8 (x3.1.1:(List (Int × (List Int)))),Ac b2 [(I x2.2.2.2.1.1),v4]]) ?_ ?_
 ·refine Bt<|fd AF AG z z z z<|Aq hC22 5 z z Bk z z<|fd AF AG z z z z<|Aq hC22 1 z z Bk z z<|be hr5 fun x6 hr6 hr5=>cb Tryz.call9 z z (c_S_SameFacts x3.1.1 v8 ((hC22.ro 7 z).now (B5 _ _)) x4.1.1 v12 ((hC22.ro 3 z).now (B5 _ _)) x6 hr6) fun w19 hB12=>have hC24:=hC22.grow hB12;B2 z z<|Ae z z<|B3 (fun hc2=>?_) (fun hc2=>?_)
  ·replace hr5:=AD hr5 hc2
   refine gs z z z z<|gs z z z z<|gs z z z z<|gs z z z z<|gs z z z z<|AI z z z<|Ae z z<|gs z z z z<|gs z z z z<|gs z z z z<|gs z z z z<|gs z z z z<|AI z z z<|Ae z z<|gs z z z z<|gs z z z z<|gs z z z z<|gs z z z z<|gs z z z z<|AI z z z<|Ae z z<|gs z z z z<|gs z z z z<|gs z z z z<|gs z z z z<|gs z z z z<|AI z z z<|Ae z z<|gs z z z z<|gs z z z z<|gs z z z z<|gs z z z z<|gs z z z z<|gs z z z z<|AI z z z<|Ae z z<|gs z z z z<|gs z z z z<|gs z z z z<|gs z z z z<|gs z z z z<|AI z z z<|Ab<|?_
   obtain rfl:=Aa hr5
   have hC25:=hC24.f8
   have hC26:=hC25.f8
   have hC27:=hC26.f7
   have hC28:=hC27.f6
   have hC29:=hC28.f6
   have hC30:=hC29.f6
   have hC31:=hC30.f6
   have hC32:=hC31.h7
   exact Ay (l':=[(3,v1),(4,v2),(6,(ptr b2 0)),(7,(I x2.2.2.2.2.1)),(9,(I x2.2.2.2.2.2.2)),(10,(ptr b3 0)),(12,(ptr b5 0)),(13,(ptr b6 0)),(96,(.bool true))]) ⟨z,z,z,z,z,z,z,z,z,Ak⟩<|⟨true,z,z,(Al hB12).below,hC32⟩
  replace hr5:=AE hr5 hc2
  refine Ai z z<|fd AF Ax z z z z<|Ai z z<|Aq hC24 5 z z A6 z z<|Ai z z<|fd AF Ax z z z z<|Ai z z<|Aq hC24 1 z z A6 z z<|Ai z z<|Cl z z z<|AY z z z<|Ae z z<|B3 (fun hc3=>?_) (fun hc3=>?_)
  ·replace hr5:=AD hr5 hc3
   refine gs z z z z<|gs z z z z<|gs z z z z<|gs z z z z<|gs z z z z<|AI z z z<|Ae z z<|gs z z z z<|gs z z z z<|gs z z z z<|gs z z z z<|gs z z z z<|AI z z z<|Ae z z<|gs z z z z<|gs z z z z<|gs z z z z<|gs z z z z<|gs z z z z<|AI z z z<|Ae z z<|gs z z z z<|gs z z z z<|gs z z z z<|gs z z z z<|gs z z z z<|gs z z z z<|AI z z z<|Ae z z<|gs z z z z<|gs z z z z<|gs z z z z<|gs z z z z<|gs z z z z<|AI z z z<|Ab<|?_
   obtain rfl:=Aa hr5
   have hC33:=hC24.f8
   have hC34:=hC33.f8
   have hC35:=hC34.f7
   have hC36:=hC35.f6
   have hC37:=hC36.f6
   have hC38:=hC37.f6
   have hC39:=hC38.f6
   have hC40:=hC39.h7
   exact Ay (l':=[(3,v1),(4,v2),(6,(ptr b2 0)),(7,(I x2.2.2.2.2.1)),(9,(I x2.2.2.2.2.2.2)),(10,(ptr b3 0)),(12,(ptr b5 0)),(13,(ptr b6 0)),(96,(.bool true))]) ⟨z,z,z,z,z,z,z,z,z,Ak⟩<|⟨true,z,z,(Al hB12).below,hC40⟩
  replace hr5:=AE hr5 hc3
  refine Ai z z<|fd AF Ax z z z z<|Ai z z<|Aq hC24 5 z z A6 z z<|Ai z z<|fd AF Ax z z z z<|Ai z z<|Aq hC24 1 z z A6 z z<|Ai z z<|Cl z z z<|AY z z z<|Ae z z<|B3 (fun hc4=>?_) (fun hc4=>?_)
  ·replace hr5:=AD hr5 hc4
   refine gs z z z z<|gs z z z z<|gs z z z z<|gs z z z z<|gs z z z z<|AI z z z<|Ae z z<|gs z z z z<|gs z z z z<|gs z z z z<|gs z z z z<|gs z z z z<|AI z z z<|Ae z z<|gs z z z z<|gs z z z z<|gs z z z z<|gs z z z z<|gs z z z z<|gs z z z z<|AI z z z<|Ae z z<|gs z z z z<|gs z z z z<|gs z z z z<|gs z z z z<|gs z z z z<|AI z z z<|Ab<|?_
   obtain rfl:=Aa hr5
   have hC41:=hC24.f8
   have hC42:=hC41.f8
   have hC43:=hC42.f7
   have hC44:=hC43.f6
   have hC45:=hC44.f6
   have hC46:=hC45.f6
   have hC47:=hC46.f6
   have hC48:=hC47.h7
   exact Ay (l':=[(3,v1),(4,v2),(6,(ptr b2 0)),(7,(I x2.2.2.2.2.1)),(9,(I x2.2.2.2.2.2.2)),(10,(ptr b3 0)),(12,(ptr b5 0)),(13,(ptr b6 0)),(96,(.bool true))]) ⟨z,z,z,z,z,z,z,z,z,Ak⟩<|⟨true,z,z,(Al hB12).below,hC48⟩
  replace hr5:=AE hr5 hc4
  refine Ai z z<|fd AF Ax z z z z<|Ai z z<|Aq hC24 5 z z A6 z z<|Ai z z<|fd AF Ax z z z z<|Ai z z<|Aq hC24 1 z z A6 z z<|Ai z z<|Cl z z z<|AY z z z<|Ae z z<|B3 (fun hc5=>?_) (fun hc5=>?_)
  ·replace hr5:=AD hr5 hc5
   refine gs z z z z<|gs z z z z<|gs z z z z<|gs z z z z<|gs z z z z<|AI z z z<|Ae z z<|gs z z z z<|gs z z z z<|gs z z z z<|gs z z z z<|gs z z z z<|gs z z z z<|AI z z z<|Ae z z<|gs z z z z<|gs z z z z<|gs z z z z<|gs z z z z<|gs z z z z<|AI z z z<|Ab<|?_
   obtain rfl:=Aa hr5
   have hC49:=hC24.f8
   have hC50:=hC49.f8
   have hC51:=hC50.f7
   have hC52:=hC51.f6
   have hC53:=hC52.f6
   have hC54:=hC53.f6
   have hC55:=hC54.f6
   have hC56:=hC55.h7
   exact Ay (l':=[(3,v1),(4,v2),(6,(ptr b2 0)),(7,(I x2.2.2.2.2.1)),(9,(I x2.2.2.2.2.2.2)),(10,(ptr b3 0)),(12,(ptr b5 0)),(13,(ptr b6 0)),(96,(.bool true))]) ⟨z,z,z,z,z,z,z,z,z,Ak⟩<|⟨true,z,z,(Al hB12).below,hC56⟩
  replace hr5:=AE hr5 hc5
  refine Ai z z<|fd AF BG z z z z<|Ai z z<|Aq hC24 5 z z Cd z z<|Ai z z<|fd AF BG z z z z<|Ai z z<|Aq hC24 1 z z Cd z z<|Ai z z<|WL_bool_neq C0 z z z<|AY z z z<|Ae z z<|B3 (fun hc6=>?_) (fun hc6=>?_)
  ·replace hr5:=AD hr5 hc6
   refine gs z z z z<|gs z z z z<|gs z z z z<|gs z z z z<|gs z z z z<|gs z z z z<|AI z z z<|Ae z z<|gs z z z z<|gs z z z z<|gs z z z z<|gs z z z z<|gs z z z z<|AI z z z<|Ab<|?_
   obtain rfl:=Aa hr5
   have hC57:=hC24.f8
   have hC58:=hC57.f8
   have hC59:=hC58.f7
   have hC60:=hC59.f6
   have hC61:=hC60.f6
   have hC62:=hC61.f6
   have hC63:=hC62.f6
   have hC64:=hC63.h7
   exact Ay (l':=[(3,v1),(4,v2),(6,(ptr b2 0)),(7,(I x2.2.2.2.2.1)),(9,(I x2.2.2.2.2.2.2)),(10,(ptr b3 0)),(12,(ptr b5 0)),(13,(ptr b6 0)),(96,(.bool true))]) ⟨z,z,z,z,z,z,z,z,z,Ak⟩<|⟨true,z,z,(Al hB12).below,hC64⟩
  replace hr5:=AE hr5 hc6
  refine Ai z z<|fd A5 AG z z z z<|Ai z z<|Aq hC24 4 z z Bk z z<|Ai z z<|fd A5 AG z z z z<|Ai z z<|Aq hC24 0 z z Bk z z<|be hr5 fun x7 hr7 hr5=>Ai z z<|cb Tryz.call9 z z (c_S_SameFacts x3.2.1 v9 ((hC24.ro 6 z).now (B5 _ _)) x4.2.1 v13 ((hC24.ro 2 z).now (B5 _ _)) x7 hr7) fun w20 hB13=>have hC65:=hC24.grow hB13;Ai z z<|B2 z z<|AY z z z<|Ae z z<|B3 (fun hc7=>?_) (fun hc7=>?_)
  ·replace hr5:=AD hr5 hc7
   refine gs z z z z<|gs z z z z<|gs z z z z<|gs z z z z<|gs z z z z<|AI z z z<|Ab<|?_
   obtain rfl:=Aa hr5
   have hC66:=hC65.f8
   have hC67:=hC66.f8
   have hC68:=hC67.f7
   have hC69:=hC68.f6
   have hC70:=hC69.f6
   have hC71:=hC70.f6
   have hC72:=hC71.f6
   have hC73:=hC72.h7
   exact Ay (l':=[(3,v1),(4,v2),(6,(ptr b2 0)),(7,(I x2.2.2.2.2.1)),(9,(I x2.2.2.2.2.2.2)),(10,(ptr b3 0)),(12,(ptr b5 0)),(13,(ptr b6 0)),(96,(.bool true))]) ⟨z,z,z,z,z,z,z,z,z,Ak⟩<|⟨true,z,z,((Al hB12).then hB13).below,hC73⟩
  replace hr5:=AE hr5 hc7
  refine Ai z z<|fd A5 Ax z z z z<|Ai z z<|Aq hC65 4 z z A6 z z<|Ai z z<|fd A5 Ax z z z z<|Ai z z<|Aq hC65 0 z z A6 z z<|Ai z z<|Cl z z z<|AY z z z<|Ab<|?_
  obtain rfl:=Aa hr5
  have hC74:=hC65.f8
  have hC75:=hC74.f8
  have hC76:=hC75.f7
  have hC77:=hC76.f6
  have hC78:=hC77.f6
  have hC79:=hC78.f6
  have hC80:=hC79.f6
  have hC81:=hC80.h7
  exact Ay (l':=[(3,v1),(4,v2),(6,(ptr b2 0)),(7,(I x2.2.2.2.2.1)),(9,(I x2.2.2.2.2.2.2)),(10,(ptr b3 0)),(12,(ptr b5 0)),(13,(ptr b6 0)),(96,(.bool (!decide (x3.2.2=x4.2.2))))]) ⟨z,z,z,z,z,z,z,z,z,Ak⟩<|⟨(!decide (x3.2.2=x4.2.2)),z,z,((Al hB12).then hB13).below,hC81⟩
 rintro _ w18 ⟨x5,rfl,rfl,hB11,hC23⟩
 try dsimp only at hF
 refine AL z (fun hc8=>?_) (fun hc8=>?_)
 ·replace hF:=AD hF hc8
  refine Ad<|Af z z<|Ab<|AK<|A2<|?_
  obtain rfl:=Aa hF
  exact AB z z<|⟨_,z,Bf hC23 _⟩
 replace hF:=AE hF hc8
 refine AM<|Av<|AA<|Ad<|fd AF BG z z z z<|Aq hC23 1 z z Cd z z<|B2 z z<|Ab<|AL z (fun hc9=>?_) (fun hc9=>?_)
 ·replace hF:=AD hF hc9
  refine Ad<|fd AF AG z z z z<|Aq hC23 4 z z Bk z z<|Bo Ah (hC23.ro 5 z) z z<|BP z z z<|Af z z<|Ab<|AK<|A2<|?_
  obtain rfl:=Aa hF
  exact AB z z<|⟨_,z,Bf hC23 _⟩
 replace hF:=AE hF hc9
 refine AM<|Av<|be hF fun r2 hr8 hF=>BL (fun l w=>∃x8:Bool,x8=r2∧l=[(2,(.bool x8))]∧Below w18.heap.size w18 w∧Ctx [] w0 w []) ?_ ?_
 ·refine W_drawn 34 z hmix fun w22 hB15=>have hC83:=hC23.grow hB15;tf 0 AF Ax z z z z z<|tf 2 A5 Ax z z z z z<|wAS (l':=[(3,v1),(4,v2),(6,(ptr b2 0)),(7,(I x2.2.2.2.2.1)),(9,(I x2.2.2.2.2.2.2)),(10,(ptr b3 0)),(12,(ptr b5 0)),(13,(ptr b6 0)),(96,(.bool x5)),(97,(ptr b5 4)),(98,(.bool x4.1.2.2.2.2)),(99,(.bool (!x4.1.2.2.2.2))),(104,(ptr b3 1)),(106,(ptr b6 1))]) ⟨z,z,z,z,z,z,z,z,z,z,z,z,z,z,Ak⟩<|Bq [⟨1,[],fun vs=>AR (I x3.1.2.1),[]⟩,⟨3,[],fun vs=>AR (I x4.2.2),[]⟩] [[],[]] 30 z (by kernel_rfl) (by kernel_rfl) z ?_ ?_
  ·refine Am z ?_ ?_
   ·intro w23 hB16
    refine Aw<|⟨_,z,?_⟩
    exact Aq (hC83.grow hB16) 4 z z A6 z z<|Ab<|A0 (An _ _) z z ⟨z,z⟩
   refine Am z ?_ ?_
   ·intro w23 hB16
    refine Aw<|⟨_,z,?_⟩
    exact Aq (hC83.grow hB16) 0 z z A6 z z<|Ab<|A0 (An _ _) z z ⟨z,z⟩
   exact Ba
  intro w24 hB17
  refine Au z z z ?_
  rintro _ _ ⟨rfl,rfl⟩
  refine Au z z z ?_
  rintro _ _ ⟨rfl,rfl⟩
  refine Bh fun hn4 hb4=>have hC84:=hC83.grow hB17;tk 4 z z (fl_eql z z)<|BP z z z<|Ab<|tm 5 z z z<|BO (fun hc10=>?_) (fun hc10=>?_)
  ·replace hr8:=AD hr8 hc10
   refine tg 6 z z z z (BB AF z z (fun w=>⟨_,AG w⟩) z)<|Ai z z<|fd AF AG z z z z<|Ab<|tn 8 z z z z z<|tn 9 z z z z z<|tg 10 z z z z (BB A5 z z (fun w=>⟨_,AG w⟩) z)<|Ai z z<|fd A5 AG z z z z<|Ab<|be hr8 fun x9 hr9 hr8=>wAS (l':=[(3,v1),(4,v2),(6,(ptr b2 0)),(7,(I x2.2.2.2.2.1)),(9,(I x2.2.2.2.2.2.2)),(10,(ptr b3 0)),(12,(ptr b5 0)),(13,(ptr b6 0)),(96,(.bool x5)),(97,(ptr b5 4)),(98,(.bool x4.1.2.2.2.2)),(99,(.bool (!x4.1.2.2.2.2))),(104,(ptr b3 1)),(105,(I x3.1.2.1)),(106,(ptr b6 1)),(107,(I x4.2.2)),(108,(.bool (decide (x3.1.2.1=x4.2.2)))),(109,(.bool true)),(110,(ptr b3 0)),(112,v1),(113,v2),(114,(ptr b6 0))]) ⟨z,z,z,z,z,z,z,z,z,z,z,z,z,z,z,z,z,z,z,z,z,z,Ak⟩<|Bq [⟨7,[],fun vs=>AR v8,[]⟩,⟨11,[],fun vs=>AR v13,[]⟩,⟨12,[],fun vs=>AR (.agg #[(I x2.2.2.2.1.1),v4]),[]⟩,⟨13,[],fun vs=>Cv x9,[]⟩] [[],[],[],[11,12]] 20 z (by kernel_rfl) (by kernel_rfl) z ?_ ?_
   ·refine Am z ?_ ?_
    ·intro w26 hB19
     refine Aw<|⟨_,z,?_⟩
     exact Ai z z<|Aq (hC84.grow hB19) 4 z z Bk z z<|Ab<|A0 (An _ _) z z ⟨z,z⟩
    refine Am z ?_ ?_
    ·intro w26 hB19
     refine Aw<|⟨_,z,?_⟩
     exact Ai z z<|Aq (hC84.grow hB19) 0 z z Bk z z<|Ab<|A0 (An _ _) z z ⟨z,z⟩
    refine Am z ?_ ?_
    ·intro w26 hB19
     refine Aw<|⟨_,z,?_⟩
     exact Ai z z<|At [(I x2.2.2.2.1.1),v4] (hC84.grow hB19) 6 z z z Bl A9 z z<|Ab<|A0 (An _ _) z z ⟨z,z⟩
    refine Am z ?_ ?_
    ·intro w26 hB19
     refine A7 z z z ?_
     rintro _ _ ⟨rfl,rfl⟩ _
     refine A7 z z z ?_
     rintro _ _ ⟨rfl,rfl⟩ _
     refine Aw<|⟨_,z,?_⟩
     refine Ai z z<|AJ Tryz.call25 z z (c_S_MatchesOf x2.1 v1 (h1.now ((((hk26.then hB11).then hB15).then hB17).then hB19)) x2.2.1 v2 (h2.now ((((hk26.then hB11).then hB15).then hB17).then hB19)) x4.2.1 v13 ((hC84.grow hB19).ro 2 z) (x2.2.2.2.1.1,x2.2.2.2.1.2) v4 (h4.now ((((hk26.then hB11).then hB15).then hB17).then hB19)) x9 hr9)<|?_
     rintro v14 w25 ⟨hB18,F5,hv8,hn5,hb5⟩
     exact Ab<|Cq hB18 z z hv8 hn5 hb5 (Val.inh hv8)
    exact Ba
   intro w27 hB20
   refine Au z z z ?_
   rintro _ _ ⟨rfl,rfl⟩
   refine Au z z z ?_
   rintro _ _ ⟨rfl,rfl⟩
   refine Au z z z ?_
   rintro _ _ ⟨rfl,rfl⟩
   refine Au z z z fun v14 F5 hv8=>Bh fun hn6 hb6=>?_
   have hC85:=hC84.pushL hB20 (Bs:=[Ag v14 (x9:(List (Int × (List Int))))]) (Fs:=[F5]) ⟨F5,_,z,hv8,z⟩ (by simpa using hn6) (fun b h=>(hb6 b (by simpa using h)).1)
   refine be hr8 fun x10 hr10 hr8=>oe 14 z<|Ai z z<|cb Tryz.call9 z z (c_S_SameFacts x3.1.1 v8 ((hC85.ro 6 z).now (B5 _ _)) x9 v14 ((hC85.ro 0 z).now (B5 _ _)) x10 hr10) fun w28 hB21=>have hC86:=hC85.grow hB21;Ab<|tp 15 z z z z<|tm 16 z z z<|BO (fun hc11=>?_) (fun hc11=>?_)
   ·replace hr8:=AD hr8 hc11
    refine tg 17 z z z z (BB AF z z (fun w=>⟨_,Ax w⟩) z)<|Ai z z<|fd AF Ax z z z z<|Ab<|tn 19 z z z z z<|tg 20 z z z z (fl_max z z)<|Ai z z<|WL_max z z z<|Ab<|oe 18 z<|Ai z z<|Aq hC86 5 z z A6 z z<|Ab<|tg 21 z z z z (fl_leq z z)<|Ai z z<|CE z z z<|Ab<|tp 22 z z z z<|tm 23 z z z<|BO (fun hc12=>?_) (fun hc12=>?_)
    ·replace hr8:=AD hr8 hc12
     refine tg 24 z z z z (BB AF z z (fun w=>⟨_,Ax w⟩) z)<|Ai z z<|fd AF Ax z z z z<|Ab<|tg 26 z z z z (BB AF z z (fun w=>⟨_,AG w⟩) z)<|Ai z z<|fd AF AG z z z z<|Ab<|tn 29 z z z z z<|be hr8 fun x11 hr11 hr8=>wAS (l':=[(3,v1),(4,v2),(6,(ptr b2 0)),(7,(I x2.2.2.2.2.1)),(9,(I x2.2.2.2.2.2.2)),(10,(ptr b3 0)),(12,(ptr b5 0)),(13,(ptr b6 0)),(96,(.bool x5)),(97,(ptr b5 4)),(98,(.bool x4.1.2.2.2.2)),(99,(.bool (!x4.1.2.2.2.2))),(104,(ptr b3 1)),(105,(I x3.1.2.1)),(106,(ptr b6 1)),(107,(I x4.2.2)),(108,(.bool (decide (x3.1.2.1=x4.2.2)))),(109,(.bool true)),(110,(ptr b3 0)),(111,v8),(112,v1),(113,v2),(114,(ptr b6 0)),(115,v13),(116,(.agg #[(I x2.2.2.2.1.1),v4])),(117,v14),(118,(.bool x10)),(119,(.bool x10)),(120,(.bool true)),(121,(ptr b3 3)),(122,(I x3.1.2.2.2.1)),(123,(I x2.2.2.2.2.2.2)),(124,(I (if 0 > x2.2.2.2.2.2.2 then 0 else x2.2.2.2.2.2.2))),(125,(.bool (decide (x3.1.2.2.2.1 ≤ (if 0 > x2.2.2.2.2.2.2 then 0 else x2.2.2.2.2.2.2))))),(126,(.bool (decide (x3.1.2.2.2.1 ≤ (if 0 > x2.2.2.2.2.2.2 then 0 else x2.2.2.2.2.2.2))))),(127,(.bool true)),(128,(ptr b3 2)),(130,(ptr b5 0)),(133,(I x2.2.2.2.2.1))]) ⟨z,z,z,z,z,z,z,z,z,z,z,z,z,z,z,z,z,z,z,z,z,z,z,z,z,z,z,z,z,z,z,z,z,z,z,z,z,z,z,Ak⟩<|Bq [⟨25,[],fun vs=>AR (I x3.1.2.2.1),[]⟩,⟨27,[],fun vs=>AR v12,[]⟩,⟨28,[],fun vs=>AR (I (List.length x4.1.1:Int)),[]⟩,⟨30,[],fun vs=>AR (I x11),[]⟩] [[],[],[27],[28]] 3 z (by kernel_rfl) (by kernel_rfl) z ?_ ?_
     ·refine Am z ?_ ?_
      ·intro w30 hB23
       refine Aw<|⟨_,z,?_⟩
       exact Ai z z<|Aq (hC86.grow hB23) 5 z z A6 z z<|Ab<|A0 (An _ _) z z ⟨z,z⟩
      refine Am z ?_ ?_
      ·intro w30 hB23
       refine Aw<|⟨_,z,?_⟩
       exact Ai z z<|Aq (hC86.grow hB23) 2 z z Bk z z<|Ab<|A0 (An _ _) z z ⟨z,z⟩
      refine Am z ?_ ?_
      ·intro w30 hB23
       refine A7 z z z ?_
       rintro _ _ ⟨rfl,rfl⟩ _
       refine Aw<|⟨_,z,?_⟩
       exact Ai z z<|Bo Ah (hC86.ro 4 z) z z<|Ab<|A0 (An _ _) z z ⟨z,z⟩
      refine Am z ?_ ?_
      ·intro w30 hB23
       refine A7 z z z ?_
       rintro _ _ ⟨rfl,rfl⟩ _
       refine Aw<|⟨_,z,?_⟩
       exact Ai z z<|ci Tryz.call26 z z (c_S_CountPages (List.length x4.1.1:Int) x2.2.2.2.2.1 x11 hr11) fun w29 hB22=>Ab<|A0 hB22 z z ⟨z,z⟩
      exact Ba
     intro w31 hB24
     refine Au z z z ?_
     rintro _ _ ⟨rfl,rfl⟩
     refine Au z z z ?_
     rintro _ _ ⟨rfl,rfl⟩
     refine Au z z z ?_
     rintro _ _ ⟨rfl,rfl⟩
     refine Au z z z ?_
     rintro _ _ ⟨rfl,rfl⟩
     refine Bh fun hn7 hb7=>have hC87:=hC86.grow hB24;tg 31 z z z z (fl_geq z z)<|Ai z z<|Cu z z z<|Ab<|tp 32 z z z z<|ta 33 z z z<|dn<|?_
     obtain rfl:=Aa hr8
     have hC88:=hC87.h0
     exact Ay (l':=[(2,(.bool (decide (x11 ≤ x3.1.2.2.1))))]) ⟨z,Ak⟩<|⟨(decide (x11 ≤ x3.1.2.2.1)),z,z,(((((Al hB15).then hB17).then hB20).then hB21).then hB24).below,hC88⟩
    replace hr8:=AE hr8 hc12
    refine sk 24 z z z z z<|sk 25 z z z z z<|sk 26 z z z z z<|sk 27 z z z z z<|sk 28 z z z z z<|sk 29 z z z z z<|sk 30 z z z z z<|sk 31 z z z z z<|tq 32 z z z z<|ta 33 z z z<|dn<|?_
    obtain rfl:=Aa hr8
    have hC89:=hC86.h0
    exact Ay (l':=[(2,(.bool false))]) ⟨z,Ak⟩<|⟨false,z,z,((((Al hB15).then hB17).then hB20).then hB21).below,hC89⟩
   replace hr8:=AE hr8 hc11
   refine sk 17 z z z z z<|sk 18 z z z z z<|sk 19 z z z z z<|sk 20 z z z z z<|sk 21 z z z z z<|tq 22 z z z z<|tm 23 z z z<|sk 24 z z z z z<|sk 25 z z z z z<|sk 26 z z z z z<|sk 27 z z z z z<|sk 28 z z z z z<|sk 29 z z z z z<|sk 30 z z z z z<|sk 31 z z z z z<|tq 32 z z z z<|ta 33 z z z<|dn<|?_
   obtain rfl:=Aa hr8
   have hC90:=hC86.h0
   exact Ay (l':=[(2,(.bool false))]) ⟨z,Ak⟩<|⟨false,z,z,((((Al hB15).then hB17).then hB20).then hB21).below,hC90⟩
  replace hr8:=AE hr8 hc10
  refine sk 6 z z z z z<|sk 7 z z z z z<|sk 8 z z z z z<|sk 9 z z z z z<|sk 10 z z z z z<|sk 11 z z z z z<|sk 12 z z z z z<|sk 13 z z z z z<|sk 14 z z z z z<|tq 15 z z z z<|tm 16 z z z<|sk 17 z z z z z<|sk 18 z z z z z<|sk 19 z z z z z<|sk 20 z z z z z<|sk 21 z z z z z<|tq 22 z z z z<|tm 23 z z z<|sk 24 z z z z z<|sk 25 z z z z z<|sk 26 z z z z z<|sk 27 z z z z z<|sk 28 z z z z z<|sk 29 z z z z z<|sk 30 z z z z z<|sk 31 z z z z z<|tq 32 z z z z<|ta 33 z z z<|dn<|?_
  obtain rfl:=Aa hr8
  have hC91:=hC84.h0
  exact Ay (l':=[(2,(.bool false))]) ⟨z,Ak⟩<|⟨false,z,z,((Al hB15).then hB17).below,hC91⟩
 rintro _ w21 ⟨x8,rfl,rfl,hB14,hC82⟩
 try dsimp only at hF
 refine AK ?_
 obtain rfl:=Aa hF
 exact AB z z<|⟨_,z,Bf hC82 _⟩
end Go.Gx.Px
