/- The contracts of the Go functions against the pure functions, printed by program. Conditions: each says them. -/
import Derived.Test.YtpjmmbipjddilaaGreatC1
set_option linter.unusedVariables false
set_option linter.unusedSimpArgs false
set_option maxRecDepth 100000
set_option maxHeartbeats 4000000
namespace Go.Gx.Px
open Go.Proofs Go.RowKit
open K9
theorem c_S_l5Draw {w0:World} {Fs:List (List Nat)} (pb1:Nat) (a1:((List UInt8) × Int × Int)) (u1:Value) (g1:RO Fs.flatten w0 u1 a1.1) (hH:Hold [Ac pb1 [u1,(I a1.2.1),(I a1.2.2)]] w0 Fs) (hn:Fs.flatten.Nodup) (rr:((List Int) × (List (Int × (List Int) × Int × Int × Int)) × (List (Int × (List Int))) × ((List UInt8) × Int × Int))) (hF:S.l5Draw a1=some rr) :
 Calls Tryz.prog 64 [(ptr pb1 0)].toArray w0 fun e w'=>∃v,e=.returned v∧∃q0:Value,∃q1:Value,∃q2:Value,v=(.tuple #[q0,q1,q2])∧Ctx Fs.flatten w0 w' [Ag q0 (rr.1:(List Int)),Ag q1 (rr.2.1:(List (Int × (List Int) × Int × Int × Int))),Ag q2 (rr.2.2.1:(List (Int × (List Int)))),Ac pb1 [u1,(I rr.2.2.2.2.1),(I rr.2.2.2.2.2)]]:=by
 refine A3 Tryz.func64 z z ?_
 have hC0:=B6 hH hn
 unfold S.l5Draw at hF
 refine Ad<|Af z z<|Af z z<|Af z z<|Ab<|Ad<|Ae z z<|be hF fun x1 hr1 hF=>?_
 obtain ⟨Fs1,hH1,hn1,hF1,hO1,hb1⟩:=AS (As:=[]) [Ac pb1 [u1,(I a1.2.1),(I a1.2.2)]] hC0
 refine AJ Tryz.call87 z z (c_S_l2Schema pb1 (a1.1,a1.2.1,a1.2.2) u1 (AX g1 hC0.keep hF1) hH1 hn1 x1 hr1) ?_
 rintro v1 w1 ⟨_,rfl,hq1⟩
 have hC1:Ctx Fs.flatten w0 w1 [Ag v1 (x1.1:(List Int)),Ac pb1 [u1,(I x1.2.2.1),(I x1.2.2.2)]]:=hb1 _ _ hq1
 refine Af z z<|Ab<|Ad<|Ae z z<|Ae z z<|be hF fun x2 hr2 hF=>have hC2:=hC1.f1;?_
 obtain ⟨Fs2,hH2,hn2,hF2,hO2,hb2⟩:=AS (As:=[Ag v1 (x1.1:(List Int))]) [Ac pb1 [u1,(I x1.2.2.1),(I x1.2.2.2)]] hC2
 refine AJ Tryz.call88 z z (c_S_l5Methods pb1 (a1.1,x1.2.2.1,x1.2.2.2) u1 (AX g1 hC2.keep hF2) x1.1 v1 (hO2 0 _ _ _ z) hH2 hn2 x2 hr2) ?_
 rintro v2 w2 ⟨_,rfl,hq2⟩
 have hC3:Ctx Fs.flatten w0 w2 [Ag v2 (x2.1:(List (Int × (List Int) × Int × Int × Int))),Ac pb1 [u1,(I x2.2.2.1),(I x2.2.2.2)],Ag v1 (x1.1:(List Int))]:=hb2 _ _ hq2
 refine Af z z<|Ab<|Ad<|Ae z z<|Ae z z<|be hF fun x3 hr3 hF=>have hC4:=hC3.f1;?_
 obtain ⟨Fs3,hH3,hn3,hF3,hO3,hb3⟩:=AS (As:=[Ag v2 (x2.1:(List (Int × (List Int) × Int × Int × Int))),Ag v1 (x1.1:(List Int))]) [Ac pb1 [u1,(I x2.2.2.1),(I x2.2.2.2)]] hC4
 refine AJ Tryz.call89 z z (c_S_l2Facts pb1 (a1.1,x2.2.2.1,x2.2.2.2) u1 (AX g1 hC4.keep hF3) x1.1 v1 (hO3 1 _ _ _ z) 8 hH3 hn3 x3 hr3) ?_
 rintro v3 w3 ⟨_,rfl,hq3⟩
 have hC5:Ctx Fs.flatten w0 w3 [Ag v3 (x3.1:(List (Int × (List Int)))),Ac pb1 [u1,(I x3.2.2.1),(I x3.2.2.2)],Ag v2 (x2.1:(List (Int × (List Int) × Int × Int × Int))),Ag v1 (x1.1:(List Int))]:=hb3 _ _ hq3
 refine Af z z<|Ab<|AA<|Ad<|Ae z z<|be hF fun x4 hr4 hF=>have hC6:=hC5.f1;?_
 obtain ⟨Fs4,hH4,hn4,hF4,hO4,hb4⟩:=AS (As:=[Ag v3 (x3.1:(List (Int × (List Int)))),Ag v2 (x2.1:(List (Int × (List Int) × Int × Int × Int))),Ag v1 (x1.1:(List Int))]) [Ac pb1 [u1,(I x3.2.2.1),(I x3.2.2.2)]] hC6
 refine AJ B0 z z (c_S_l1Below pb1 (a1.1,x3.2.2.1,x3.2.2.2) u1 (AX g1 hC6.keep hF4) 20 hH4 hn4 x4 hr4) ?_
 rintro _ w4 ⟨rfl,hq4⟩
 have hC7:Ctx Fs.flatten w0 w4 [Ac pb1 [u1,(I x4.2.2.1),(I x4.2.2.2)],Ag v3 (x3.1:(List (Int × (List Int)))),Ag v2 (x2.1:(List (Int × (List Int) × Int × Int × Int))),Ag v1 (x1.1:(List Int))]:=hb4 _ _ hq4
 refine Ab<|Bb<|Ad<|BP z z z<|Af z z<|Ab<|be hF fun r1 hr5 hF=>Bx (fun l w=>∃x5:Int,∃x6:Int,∃v4:Value,∃x7:(List Int),∃v5:Value,∃x8:(List (Int × (List Int) × Int × Int × Int)),∃v6:Value,∃x9:(List (Int × (List Int))),(x5,x6,x7,x8,x9)=r1∧l=[(5,v4),(6,v5),(7,v6)]∧Ctx Fs.flatten w0 w [Ac pb1 [u1,(I x5),(I x6)],Ag v6 (x9:(List (Int × (List Int)))),Ag v5 (x8:(List (Int × (List Int) × Int × Int × Int))),Ag v4 (x7:(List Int))]) ?_ ?_
 ·refine AL z (fun hc1=>?_) (fun hc1=>?_)
  ·replace hr5:=AD hr5 hc1
   refine Bt<|Ae z z<|Ae z z<|Ae z z<|be hr5 fun x10 hr6 hr5=>?_
   obtain ⟨Fs5,hH5,hn5,hF5,hO5,hb5⟩:=AS (As:=[Ag v3 (x3.1:(List (Int × (List Int)))),Ag v2 (x2.1:(List (Int × (List Int) × Int × Int × Int))),Ag v1 (x1.1:(List Int))]) [Ac pb1 [u1,(I x4.2.2.1),(I x4.2.2.2)]] hC7
   refine AJ Tryz.call90 z z (c_S_l5AnyMethod pb1 (a1.1,x4.2.2.1,x4.2.2.2) u1 (AX g1 hC7.keep hF5) x1.1 v1 (hO5 2 _ _ _ z) hH5 hn5 x10 hr6) ?_
   rintro v7 w6 ⟨_,rfl,hq5⟩
   have hC9:Ctx Fs.flatten w0 w6 [Ag v7 (x10.1:(Int × (List Int) × Int × Int × Int)),Ac pb1 [u1,(I x10.2.2.1),(I x10.2.2.2)],Ag v3 (x3.1:(List (Int × (List Int)))),Ag v2 (x2.1:(List (Int × (List Int) × Int × Int × Int))),Ag v1 (x1.1:(List Int))]:=hb5 _ _ hq5
   obtain ⟨v8,rfl,hC10⟩:=st93_own hC9
   refine AN (vs:=[(.agg #[(I x10.1.1),v8,(I x10.1.2.2.1),(I x10.1.2.2.2.1),(I x10.1.2.2.2.2)])]) hC10 Bi ty93 z z z z (fac z<|fa0) z z (fun b1 w7 hC11 hB2=>?_)
   have hC12:=hC11.row0 (α:=(Int × (List Int) × Int × Int × Int))
   have hC14:=hC12.f2
   have hC13:=own_st93 x10.1.1 v8 x10.1.2.1 x10.1.2.2.1 x10.1.2.2.2.1 x10.1.2.2.2.2 hC14
   have hC15:=hC13.row1
   have hC16:=hC15.front 1 z
   dsimp only [List.eraseIdx,List.cons_append,List.nil_append,List.append_nil] at hC16
   have hC17:Ctx Fs.flatten w0 w7 (Ag (.slice (some ⟨b1,0,none⟩) 1 1) ([(x10.1.1,x10.1.2.1,x10.1.2.2.1,x10.1.2.2.2.1,x10.1.2.2.2.2)]:List (Int × (List Int) × Int × Int × Int))::[Ac pb1 [u1,(I x10.2.2.1),(I x10.2.2.2)],Ag v3 (x3.1:(List (Int × (List Int)))),Ag v2 (x2.1:(List (Int × (List Int) × Int × Int × Int))),Ag v1 (x1.1:(List Int))]):=hC16.rowOwn (by simp [maxLen])
   refine be hr5 fun x11 hx1 hr5=>BA hC17 2 z Bi ty93 z hx1 z z z fun v9 w9 hC18=>?_
   try dsimp only [List.set] at hC18
   refine Af z z<|Ab<|?_
   obtain rfl:=Aa hr5
   exact Ay (l':=[(5,v1),(6,v9),(7,v3)]) ⟨z,z,z,Ak⟩<|⟨x10.2.2.1,x10.2.2.2,v1,x1.1,v9,x11,v3,x3.1,z,z,hC18⟩
  replace hr5:=AE hr5 hc1
  refine Ad<|BP z z z<|Af z z<|Ab<|be hr5 fun r2 hr7 hr5=>Bx (fun l w=>∃x12:Int,∃x13:Int,∃v10:Value,∃x14:(List Int),∃v11:Value,∃x15:(List (Int × (List Int))),(x12,x13,x14,x15)=r2∧l=[(5,v10),(6,v2),(7,v11)]∧Ctx Fs.flatten w0 w [Ac pb1 [u1,(I x12),(I x13)],Ag v11 (x15:(List (Int × (List Int)))),Ag v2 (x2.1:(List (Int × (List Int) × Int × Int × Int))),Ag v10 (x14:(List Int))]) ?_ ?_
  ·refine AL z (fun hc2=>?_) (fun hc2=>?_)
   ·replace hr7:=AD hr7 hc2
    refine Bt<|Ae z z<|Ae z z<|be hr7 fun x16 hr8 hr7=>?_
    obtain ⟨Fs6,hH6,hn6,hF6,hO6,hb6⟩:=AS (As:=[Ag v3 (x3.1:(List (Int × (List Int)))),Ag v2 (x2.1:(List (Int × (List Int) × Int × Int × Int))),Ag v1 (x1.1:(List Int))]) [Ac pb1 [u1,(I x4.2.2.1),(I x4.2.2.2)]] hC7
    refine AJ Tryz.call91 z z (c_S_l2AnyFacts pb1 (a1.1,x4.2.2.1,x4.2.2.2) u1 (AX g1 hC7.keep hF6) x1.1 v1 (hO6 2 _ _ _ z) hH6 hn6 x16 hr8) ?_
    rintro v12 w11 ⟨_,rfl,hq7⟩
    have hC21:Ctx Fs.flatten w0 w11 [Ag v12 (x16.1:(List (Int × (List Int)))),Ac pb1 [u1,(I x16.2.2.1),(I x16.2.2.2)],Ag v3 (x3.1:(List (Int × (List Int)))),Ag v2 (x2.1:(List (Int × (List Int) × Int × Int × Int))),Ag v1 (x1.1:(List Int))]:=hb6 _ _ hq7
    refine Af z z<|Ab<|?_
    obtain rfl:=Aa hr7
    have hC22:=hC21.f4
    have hC23:=hC22.f4
    have hC24:=hC23.f2
    have hC25:=hC24.f3
    have hC26:=hC25.h4
    exact Ay (l':=[(5,v1),(6,v2),(7,v12)]) ⟨z,z,z,Ak⟩<|⟨x16.2.2.1,x16.2.2.2,v1,x1.1,v12,x16.1,z,z,hC26⟩
   replace hr7:=AE hr7 hc2
   refine Ad<|BP z z z<|Af z z<|Ab<|be hr7 fun r3 hr9 hr7=>Bx (fun l w=>∃x17:Int,∃x18:Int,∃v13:Value,∃x19:(List Int),(x17,x18,x19)=r3∧l=[(5,v13),(6,v2),(7,v3)]∧Ctx Fs.flatten w0 w [Ac pb1 [u1,(I x17),(I x18)],Ag v3 (x3.1:(List (Int × (List Int)))),Ag v2 (x2.1:(List (Int × (List Int) × Int × Int × Int))),Ag v13 (x19:(List Int))]) ?_ ?_
   ·refine AL z (fun hc3=>?_) (fun hc3=>?_)
    ·replace hr9:=AD hr9 hc3
     refine Bt<|Ae z z<|be hr9 fun x20 hr10 hr9=>?_
     obtain ⟨Fs7,hH7,hn7,hF7,hO7,hb7⟩:=AS (As:=[Ag v3 (x3.1:(List (Int × (List Int)))),Ag v2 (x2.1:(List (Int × (List Int) × Int × Int × Int))),Ag v1 (x1.1:(List Int))]) [Ac pb1 [u1,(I x4.2.2.1),(I x4.2.2.2)]] hC7
     refine AJ Tryz.call92 z z (c_S_l2AnySchema pb1 (a1.1,x4.2.2.1,x4.2.2.2) u1 (AX g1 hC7.keep hF7) hH7 hn7 x20 hr10) ?_
     rintro v14 w13 ⟨_,rfl,hq9⟩
     have hC28:Ctx Fs.flatten w0 w13 [Ag v14 (x20.1:(List Int)),Ac pb1 [u1,(I x20.2.2.1),(I x20.2.2.2)],Ag v3 (x3.1:(List (Int × (List Int)))),Ag v2 (x2.1:(List (Int × (List Int) × Int × Int × Int))),Ag v1 (x1.1:(List Int))]:=hb7 _ _ hq9
     refine Af z z<|Ab<|?_
     obtain rfl:=Aa hr9
     have hC29:=hC28.f3
     have hC30:=hC29.f3
     have hC31:=hC30.f3
     have hC32:=hC31.h4
     exact Ay (l':=[(5,v14),(6,v2),(7,v3)]) ⟨z,z,z,Ak⟩<|⟨x20.2.2.1,x20.2.2.2,v14,x20.1,z,z,hC32⟩
    replace hr9:=AE hr9 hc3
    refine AM ?_
    obtain rfl:=Aa hr9
    exact Ay (l':=[(5,v1),(6,v2),(7,v3)]) ⟨z,z,z,Ak⟩<|⟨x4.2.2.1,x4.2.2.2,v1,x1.1,z,z,hC7⟩
   rintro l3 _ w12 hs3 ⟨x17,x18,v13,x19,rfl,rfl,hC27⟩
   try dsimp only at hr7
   obtain rfl:=Aa hr7
   exact Cn (l2:=[(5,v13),(6,v2),(7,v3)]) hs3 ⟨z,z,z,Ak⟩<|⟨x17,x18,v13,x19,v3,x3.1,z,z,hC27⟩
  rintro l2 _ w10 hs2 ⟨x12,x13,v10,x14,v11,x15,rfl,rfl,hC20⟩
  try dsimp only at hr5
  obtain rfl:=Aa hr5
  exact Cn (l2:=[(5,v10),(6,v2),(7,v11)]) hs2 ⟨z,z,z,Ak⟩<|⟨x12,x13,v10,x14,v2,x2.1,v11,x15,z,z,hC20⟩
 rintro l1 _ w5 hs1 ⟨x5,x6,v4,x7,v5,x8,v6,x9,rfl,rfl,hC8⟩
 try dsimp only at hF
 refine Bg<|Bm hs1<|?_
 clear hs1
 refine Ad<|Ae z z<|Ae z z<|Ae z z<|Af z z<|Af z z<|Af z z<|Ab<|AK<|?_
 obtain rfl:=Aa hF
 exact fn_ret3 z z z z<|have hC33:=hC8.f1;have hC34:=hC33.f2;have hC35:=hC34.f3;⟨_,z,_,_,_,z,hC35⟩
theorem c_S_l25Draw {w0:World} {Fs:List (List Nat)} (pb1:Nat) (a1:((List UInt8) × Int × Int)) (u1:Value) (g1:RO Fs.flatten w0 u1 a1.1) (hH:Hold [Ac pb1 [u1,(I a1.2.1),(I a1.2.2)]] w0 Fs) (hn:Fs.flatten.Nodup) (rr:((List Int) × (List (Int × (List Int) × Int × Int × Int)) × ((List (Int × (List Int))) × Int) × ((List UInt8) × Int × Int))) (hF:S.l25Draw a1=some rr) :
 Calls Tryz.prog 28 [(ptr pb1 0)].toArray w0 fun e w'=>∃v,e=.returned v∧∃q0:Value,∃q1:Value,∃q2:Value,v=(.tuple #[q0,q1,q2])∧Ctx Fs.flatten w0 w' [Ag q0 (rr.1:(List Int)),Ag q1 (rr.2.1:(List (Int × (List Int) × Int × Int × Int))),Ag q2 (rr.2.2.1:((List (Int × (List Int))) × Int)),Ac pb1 [u1,(I rr.2.2.2.2.1),(I rr.2.2.2.2.2)]]:=by
 refine A3 Tryz.func28 z z ?_
 have hC0:=B6 hH hn
 unfold S.l25Draw at hF
 refine Ad<|Af z z<|Af z z<|Bd hC0 zero27 z z fun b1 w1 hC1 hB1 hN1=>Ab<|Ad<|Ae z z<|be hF fun x1 hr1 hF=>have hC2:=hC1.f1;?_
 obtain ⟨Fs1,hH1,hn1,hF1,hO1,hb1⟩:=AS (As:=[Ac b1 [(.slice none 0 0),(I 0)]]) [Ac pb1 [u1,(I a1.2.1),(I a1.2.2)]] hC2
 refine AJ Tryz.call64 z z (c_S_l5Draw pb1 (a1.1,a1.2.1,a1.2.2) u1 (AX g1 hC2.keep hF1) hH1 hn1 x1 hr1) ?_
 rintro _ w2 ⟨v1,v2,v3,rfl,hq1⟩
 have hC3:Ctx Fs.flatten w0 w2 [Ag v1 (x1.1:(List Int)),Ag v2 (x1.2.1:(List (Int × (List Int) × Int × Int × Int))),Ag v3 (x1.2.2.1:(List (Int × (List Int)))),Ac pb1 [u1,(I x1.2.2.2.2.1),(I x1.2.2.2.2.2)],Ac b1 [(.slice none 0 0),(I 0)]]:=hb1 _ _ hq1
 refine Ae z z<|Bn z z z<|Bn z z z<|Bn z z z<|Af z z<|Af z z<|Af z z<|Ab<|Ad<|Ae z z<|Ae z z<|be hF fun x2 hr2 hF=>have hC4:=hC3.f3;?_
 obtain ⟨Fs2,hH2,hn2,hF2,hO2,hb2⟩:=AS (As:=[Ag v1 (x1.1:(List Int)),Ag v2 (x1.2.1:(List (Int × (List Int) × Int × Int × Int))),Ag v3 (x1.2.2.1:(List (Int × (List Int)))),Ac b1 [(.slice none 0 0),(I 0)]]) [Ac pb1 [u1,(I x1.2.2.2.2.1),(I x1.2.2.2.2.2)]] hC4
 refine AJ B0 z z (c_S_l1Below pb1 (a1.1,x1.2.2.2.2.1,x1.2.2.2.2.2) u1 (AX g1 hC4.keep hF2) 4 hH2 hn2 x2 hr2) ?_
 rintro _ w3 ⟨rfl,hq2⟩
 have hC5:Ctx Fs.flatten w0 w3 [Ac pb1 [u1,(I x2.2.2.1),(I x2.2.2.2)],Ag v1 (x1.1:(List Int)),Ag v2 (x1.2.1:(List (Int × (List Int) × Int × Int × Int))),Ag v3 (x1.2.2.1:(List (Int × (List Int)))),Ac b1 [(.slice none 0 0),(I 0)]]:=hb2 _ _ hq2
 refine BD (vs:=[(0,v3),(1,(I x2.1))]) z z z (built27_0_1 (Ca (hC5.ro 3 z)) z)<|Bd hC5 zero27 z z fun b2 w4 hC6 hB2 hN2=>Aj (cs':=[v3,(I x2.1)]) (new:=[v3,(I x2.1)]) hC6 0 z z (fac (AT (hC6.ro 4 z))<|fac z<|fa0) z Az z z fun w5 hC7 hKp1=>?_
 try dsimp only [List.set] at hC7
 have hk1:=Ar (Al hB2) hN2 hKp1
 refine Ab<|AA<|Ad<|Ae z z<|be hF fun x3 hr3 hF=>have hC8:=hC7.f1;?_
 obtain ⟨Fs3,hH3,hn3,hF3,hO3,hb3⟩:=AS (As:=[Ac b2 [v3,(I x2.1)],Ag v1 (x1.1:(List Int)),Ag v2 (x1.2.1:(List (Int × (List Int) × Int × Int × Int))),Ag v3 (x1.2.2.1:(List (Int × (List Int)))),Ac b1 [(.slice none 0 0),(I 0)]]) [Ac pb1 [u1,(I x2.2.2.1),(I x2.2.2.2)]] hC8
 refine AJ Ct z z (c_S_l1Once pb1 (a1.1,x2.2.2.1,x2.2.2.2) u1 (AX g1 hC8.keep hF3) 12 hH3 hn3 x3 hr3) ?_
 rintro _ w6 ⟨rfl,hq3⟩
 have hC9:Ctx Fs.flatten w0 w6 [Ac pb1 [u1,(I x3.2.2.1),(I x3.2.2.2)],Ac b2 [v3,(I x2.1)],Ag v1 (x1.1:(List Int)),Ag v2 (x1.2.1:(List (Int × (List Int) × Int × Int × Int))),Ag v3 (x1.2.2.1:(List (Int × (List Int)))),Ac b1 [(.slice none 0 0),(I 0)]]:=hb3 _ _ hq3
 refine Ab<|be hF fun r1 hr4 hF=>Bx (fun l w=>∃x4:Int,∃x5:Int,∃v4:Value,∃x6:(List (Int × (List Int))),∃x7:Int,(x4,x5,x6,x7)=r1∧l=[(4,(ptr b1 0)),(5,v1),(6,v2),(8,(ptr b2 0))]∧Ctx Fs.flatten w0 w [Ac pb1 [u1,(I x4),(I x5)],Ac b2 [v4,(I x7)],Ag v1 (x1.1:(List Int)),Ag v2 (x1.2.1:(List (Int × (List Int) × Int × Int × Int))),Ag v4 (x6:(List (Int × (List Int)))),Ac b1 [(.slice none 0 0),(I 0)]]) ?_ ?_
 ·refine AL z (fun hc1=>?_) (fun hc1=>?_)
  ·replace hr4:=AD hr4 hc1
   refine Bt<|Ae z z<|AN (vs:=[(I (-1)),(I 999),(I 1000),(I 1001)]) hC9 Ap ty3 z z z z (fac z<|fac z<|fac z<|fac z<|fa0) z z fun b3 w9 hC11 hB4=>?_
   have hC12:=hC11.row0 (α:=Int)
   have hC13:=hC12.triv (Bv (1001))
   have hC14:=hC13.row1
   have hC15:=hC14.triv (Bv (1000))
   have hC16:=hC15.row1
   have hC17:=hC16.triv (Bv (999))
   have hC18:=hC17.row1
   have hC19:=hC18.triv (Bv ((-1)))
   have hC20:=hC19.row1
   have hC21:=hC20.front 1 z
   dsimp only [List.eraseIdx,List.cons_append,List.nil_append,List.append_nil] at hC21
   have hC22:Ctx Fs.flatten w0 w9 (Ag (.slice (some ⟨b3,0,none⟩) 4 4) ([(-1),999,1000,1001]:List Int)::[Ac pb1 [u1,(I x3.2.2.1),(I x3.2.2.2)],Ac b2 [v3,(I x2.1)],Ag v1 (x1.1:(List Int)),Ag v2 (x1.2.1:(List (Int × (List Int) × Int × Int × Int))),Ag v3 (x1.2.2.1:(List (Int × (List Int)))),Ac b1 [(.slice none 0 0),(I 0)]]):=hC21.rowOwn (by simp [maxLen])
   refine be hr4 fun x8 hr5 hr4=>have hC23:=hC22.f1;?_
   obtain ⟨Fs4,hH4,hn4,hF4,hO4,hb4⟩:=AS (As:=[Ag (.slice (some ⟨b3,0,none⟩) 4 4) ([(-1),999,1000,1001]:(List Int)),Ac b2 [v3,(I x2.1)],Ag v1 (x1.1:(List Int)),Ag v2 (x1.2.1:(List (Int × (List Int) × Int × Int × Int))),Ag v3 (x1.2.2.1:(List (Int × (List Int)))),Ac b1 [(.slice none 0 0),(I 0)]]) [Ac pb1 [u1,(I x3.2.2.1),(I x3.2.2.2)]] hC23
   refine AJ BY z z (c_S_l1PickInt pb1 (a1.1,x3.2.2.1,x3.2.2.2) u1 (AX g1 hC23.keep hF4) ([(-1),999,1000,1001]) (.slice (some ⟨b3,0,none⟩) 4 4) (hO4 0 _ _ _ z) hH4 hn4 x8 hr5) ?_
   rintro _ w10 ⟨rfl,hq4⟩
   have hC24:Ctx Fs.flatten w0 w10 [Ac pb1 [u1,(I x8.2.2.1),(I x8.2.2.2)],Ag (.slice (some ⟨b3,0,none⟩) 4 4) ([(-1),999,1000,1001]:(List Int)),Ac b2 [v3,(I x2.1)],Ag v1 (x1.1:(List Int)),Ag v2 (x1.2.1:(List (Int × (List Int) × Int × Int × Int))),Ag v3 (x1.2.2.1:(List (Int × (List Int)))),Ac b1 [(.slice none 0 0),(I 0)]]:=hb4 _ _ hq4
   refine fd A5 Ax z z z z<|Bc (cs':=[v3,(I x8.1)]) hC24 2 z z z z Ax z z fun w11 hC25 hKp2=>?_
   try dsimp only [List.set] at hC25
   refine Ab ?_
   obtain rfl:=Aa hr4
   have hC26:=hC25.f6
   have hC27:=hC26.f6
   have hC28:=hC27.f6
   have hC29:=hC28.f6
   have hC30:=hC29.f6
   have hC31:=hC30.f5
   have hC32:=hC31.h6
   exact Ay (l':=[(4,(ptr b1 0)),(5,v1),(6,v2),(8,(ptr b2 0))]) ⟨z,z,z,z,Ak⟩<|⟨x8.2.2.1,x8.2.2.2,v3,x1.2.2.1,x8.1,z,z,hC32⟩
  replace hr4:=AE hr4 hc1
  refine AM ?_
  obtain rfl:=Aa hr4
  exact Ay (l':=[(4,(ptr b1 0)),(5,v1),(6,v2),(8,(ptr b2 0))]) ⟨z,z,z,z,Ak⟩<|⟨x3.2.2.1,x3.2.2.2,v3,x1.2.2.1,x2.1,z,z,hC9⟩
 rintro l1 _ w7 hs1 ⟨x4,x5,v4,x6,x7,rfl,rfl,hC10⟩
 try dsimp only at hF
 refine Bm hs1 ?_
 clear hs1
 refine AA<|W_drawn 6 z hmix fun w12 hB5=>have hC33:=hC10.grow hB5;tm 0 z z z<|tm 1 z z z<|ta 3 z z z<|ta 4 z z z<|oe 2 z<|At [v4,(I x7)] hC33 1 z z z A8 Az z z<|Ab<|oe 5 z<|Aj (cs':=[v4,(I x7)]) (new:=[v4,(I x7)]) hC33 5 z z (fac (AT (hC33.ro 4 z))<|fac z<|fa0) z Az z z fun w13 hC34 hKp3=>?_
 try dsimp only [List.set] at hC34
 refine Ab<|dn<|Av<|AK<|?_
 obtain rfl:=Aa hF
 refine Co z (rv_tmp z) (rv_tmp z) (rv_cell_agg (cs':=[v4,(I x7)]) hC34 (i:=5) z z z A8 Az z)<|have hC36:=hC34.f4;?_
 have hC35:=Cb v4 x6 x7 hC36
 have hC37:=hC35.f4
 have hC38:=hC37.f4
 have hC39:=hC38.h4
 exact ⟨_,z,_,_,_,z,hC39⟩
theorem c_S_l25Change {w0:World} {Dx:List Nat} {wx:World} {Fs:List (List Nat)} (pb1:Nat) (a1:((List UInt8) × Int × Int)) (u1:Value) (g1:RO Fs.flatten w0 u1 a1.1) (a2:(List Int)) (u2:Value) (g2:RO Fs.flatten w0 u2 a2) (a3:((List (Int × (List Int))) × Int)) (u3:Value) (g3:RO Dx wx u3 a3.1) (kx:∀ w,Keep Fs.flatten w0 w → Keep Dx wx w) (hH:Hold [Ac pb1 [u1,(I a1.2.1),(I a1.2.2)]] w0 Fs) (hn:Fs.flatten.Nodup) (rr:((Bool × (Int × (List Int))) × ((List UInt8) × Int × Int))) (hF:S.l25Change a1 a2 a3=some rr) :
 Calls Tryz.prog 31 [(ptr pb1 0),u2,(.agg #[u3,(I a3.2)])].toArray w0 fun e w'=>∃v,e=.returned v∧∃q0:Value,v=q0∧Ctx Fs.flatten w0 w' [Ag (α:=(Ch Dx wx)) q0 rr.1,Ac pb1 [u1,(I rr.2.2.1),(I rr.2.2.2)]]:=by
 refine A3 Tryz.func31 z z ?_
 have hC0:=B6 hH hn
 unfold S.l25Change at hF
 refine Ad<|Bz (cs:=[u3,(I a3.2)]) hC0 z z z fun b1 w1 hC1 hB1 hN1=>Bd hC1 zero31 z z fun b2 w2 hC2 hB2 hN2=>Ab<|AA<|be hF fun r1 hr1 hF=>BL (fun l w=>∃x1:Int,∃x2:Int,∃x3:Bool,(x1,x2,x3)=r1∧l=[(0,(ptr pb1 0)),(1,u2),(5,(ptr b1 0)),(6,(ptr b2 0)),(14,(.bool x3))]∧Ctx Fs.flatten w0 w [Ac b2 [(.bool false),(I 0),(.slice none 0 0)],Ac b1 [u3,(I a3.2)],Ac pb1 [u1,(I x1),(I x2)]]) ?_ ?_
 ·refine Bt<|fd A5 AG z z z z<|Aq hC2 1 z z Bk z z<|Bo Ah g3 z z<|Cr z z z<|Ae z z<|B3 (fun hc1=>?_) (fun hc1=>?_)
  ·replace hr1:=AD hr1 hc1
   refine Ai z z<|Ae z z<|be hr1 fun x4 hr2 hr1=>Ai z z<|have hC4:=hC2.f2;?_
   obtain ⟨Fs1,hH1,hn1,hF1,hO1,hb1⟩:=AS (As:=[Ac b2 [(.bool false),(I 0),(.slice none 0 0)],Ac b1 [u3,(I a3.2)]]) [Ac pb1 [u1,(I a1.2.1),(I a1.2.2)]] hC4
   refine AJ Ct z z (c_S_l1Once pb1 (a1.1,a1.2.1,a1.2.2) u1 (AX g1 hC4.keep hF1) 2 hH1 hn1 x4 hr2) ?_
   rintro _ w4 ⟨rfl,hq1⟩
   have hC5:Ctx Fs.flatten w0 w4 [Ac pb1 [u1,(I x4.2.2.1),(I x4.2.2.2)],Ac b2 [(.bool false),(I 0),(.slice none 0 0)],Ac b1 [u3,(I a3.2)]]:=hb1 _ _ hq1
   refine AI z z z<|Ab<|?_
   obtain rfl:=Aa hr1
   have hC6:=hC5.f2
   have hC7:=hC6.f2
   exact Ay (l':=[(0,(ptr pb1 0)),(1,u2),(5,(ptr b1 0)),(6,(ptr b2 0)),(14,(.bool x4.1))]) ⟨z,z,z,z,z,Ak⟩<|⟨x4.2.2.1,x4.2.2.2,x4.1,z,z,hC7⟩
  replace hr1:=AE hr1 hc1
  refine gs z z z z<|gs z z z z<|AY z z z<|Ab<|?_
  obtain rfl:=Aa hr1
  exact Ay (l':=[(0,(ptr pb1 0)),(1,u2),(5,(ptr b1 0)),(6,(ptr b2 0)),(14,(.bool false))]) ⟨z,z,z,z,z,Ak⟩<|⟨a1.2.1,a1.2.2,false,z,z,hC2⟩
 rintro _ w3 ⟨x1,x2,x3,rfl,rfl,hC3⟩
 try dsimp only at hF
 refine AL z (fun hc2=>?_) (fun hc2=>?_)
 ·replace hF:=AD hF hc2
  refine AA<|W_drawn 11 z hmix fun w10 hB6=>have hC13:=hC3.grow hB6;tf 0 A5 AG z z z z z<|tm 2 z z z<|tf 3 A5 AG z z z z z<|Ci (i:=1) (j:=4) (by kernel_rfl) z z ?_ ?_
  ·refine Aq hC13 1 z z Bk z z<|Ab<|oe 4 z<|Aq hC13 1 z z Bk z z<|Ab<|tk 5 z z (CO Ah g3 z)<|Bo Ah g3 z z<|Ab<|be hF fun x12 hr5 hF=>oe 6 z<|have hC14:=hC13.f2;?_
   obtain ⟨Fs3,hH3,hn3,hF3,hO3,hb3⟩:=AS (As:=[Ac b2 [(.bool false),(I 0),(.slice none 0 0)],Ac b1 [u3,(I a3.2)]]) [Ac pb1 [u1,(I x1),(I x2)]] hC14
   refine AJ B0 z z (c_S_l1Below pb1 (a1.1,x1,x2) u1 (AX g1 hC14.keep hF3) (List.length a3.1:Int) hH3 hn3 x12 hr5) ?_
   rintro _ w11 ⟨rfl,hq5⟩
   have hC15:Ctx Fs.flatten w0 w11 [Ac pb1 [u1,(I x12.2.2.1),(I x12.2.2.2)],Ac b2 [(.bool false),(I 0),(.slice none 0 0)],Ac b1 [u3,(I a3.2)]]:=hb3 _ _ hq5
   refine Ab<|be hF fun x13 hx2 hF=>tk 7 z z (BK Ah ty29 g3 hx2 z z)<|AZ Ah ty29 g3 hx2 z z z fun b4 o2 h4=>Ab<|oe 8 z<|Be ty29 h4 (kx _ hC15.keep) z z fun v4 h5=>?_
   obtain ⟨v5,rfl,h6⟩:=BM h5
   refine Ab<|tk 9 z z (Cp (vs:=[(1,(.agg #[(I x13.1),v5]))]) z z (built31_1 z))<|BD (vs:=[(1,(.agg #[(I x13.1),v5]))]) z z z (built31_1 z)<|Ab<|oe 10 z<|Aj (cs':=[(.bool false),(I x13.1),v5]) (new:=[(.bool false),(I x13.1),v5]) hC15 1 z z (fac z<|fac z<|fac (AT h6)<|fa0) z BS z z fun w12 hC16 hKp2=>?_
   try dsimp only [List.set] at hC16
   refine Ab<|dn<|Av<|AK<|A2<|?_
   obtain rfl:=Aa hF
   refine BR z (rv_cell_agg (cs':=[(.bool false),(I x13.1),v5]) hC16 (i:=1) z z z C4 BS z) ?_
   have hC18:=hC16.pushSh h6
   have hC17:=own_ch false x13.1 v5 x13.2 hC18
   have hC19:=hC17.h2
   exact ⟨_,z,_,z,hC19⟩
  refine Aq hC13 1 z z Bk z z<|Ab<|tk 5 z z (CO Ah g3 z)<|Bo Ah g3 z z<|Ab<|Ci (i:=1) (j:=6) (by kernel_rfl) z z ?_ ?_
  ·refine Aq hC13 1 z z Bk z z<|Ab<|be hF fun x12 hr5 hF=>oe 6 z<|have hC14:=hC13.f2;?_
   obtain ⟨Fs3,hH3,hn3,hF3,hO3,hb3⟩:=AS (As:=[Ac b2 [(.bool false),(I 0),(.slice none 0 0)],Ac b1 [u3,(I a3.2)]]) [Ac pb1 [u1,(I x1),(I x2)]] hC14
   refine AJ B0 z z (c_S_l1Below pb1 (a1.1,x1,x2) u1 (AX g1 hC14.keep hF3) (List.length a3.1:Int) hH3 hn3 x12 hr5) ?_
   rintro _ w11 ⟨rfl,hq5⟩
   have hC15:Ctx Fs.flatten w0 w11 [Ac pb1 [u1,(I x12.2.2.1),(I x12.2.2.2)],Ac b2 [(.bool false),(I 0),(.slice none 0 0)],Ac b1 [u3,(I a3.2)]]:=hb3 _ _ hq5
   refine Ab<|be hF fun x13 hx2 hF=>tk 7 z z (BK Ah ty29 g3 hx2 z z)<|AZ Ah ty29 g3 hx2 z z z fun b4 o2 h4=>Ab<|oe 8 z<|Be ty29 h4 (kx _ hC15.keep) z z fun v4 h5=>?_
   obtain ⟨v5,rfl,h6⟩:=BM h5
   refine Ab<|tk 9 z z (Cp (vs:=[(1,(.agg #[(I x13.1),v5]))]) z z (built31_1 z))<|BD (vs:=[(1,(.agg #[(I x13.1),v5]))]) z z z (built31_1 z)<|Ab<|oe 10 z<|Aj (cs':=[(.bool false),(I x13.1),v5]) (new:=[(.bool false),(I x13.1),v5]) hC15 1 z z (fac z<|fac z<|fac (AT h6)<|fa0) z BS z z fun w12 hC16 hKp2=>?_
   try dsimp only [List.set] at hC16
   refine Ab<|dn<|Av<|AK<|A2<|?_
   obtain rfl:=Aa hF
   refine BR z (rv_cell_agg (cs':=[(.bool false),(I x13.1),v5]) hC16 (i:=1) z z z C4 BS z) ?_
   have hC18:=hC16.pushSh h6
   have hC17:=own_ch false x13.1 v5 x13.2 hC18
   have hC19:=hC17.h2
   exact ⟨_,z,_,z,hC19⟩
  refine be hF fun x12 hr5 hF=>have hC14:=hC13.f2;?_
  obtain ⟨Fs3,hH3,hn3,hF3,hO3,hb3⟩:=AS (As:=[Ac b2 [(.bool false),(I 0),(.slice none 0 0)],Ac b1 [u3,(I a3.2)]]) [Ac pb1 [u1,(I x1),(I x2)]] hC14
  refine AJ B0 z z (c_S_l1Below pb1 (a1.1,x1,x2) u1 (AX g1 hC14.keep hF3) (List.length a3.1:Int) hH3 hn3 x12 hr5) ?_
  rintro _ w11 ⟨rfl,hq5⟩
  have hC15:Ctx Fs.flatten w0 w11 [Ac pb1 [u1,(I x12.2.2.1),(I x12.2.2.2)],Ac b2 [(.bool false),(I 0),(.slice none 0 0)],Ac b1 [u3,(I a3.2)]]:=hb3 _ _ hq5
  refine Ab<|oe 1 z<|Aq hC15 2 z z Bk z z<|Ab<|be hF fun x13 hx2 hF=>tk 7 z z (BK Ah ty29 g3 hx2 z z)<|AZ Ah ty29 g3 hx2 z z z fun b4 o2 h4=>Ab<|oe 8 z<|Be ty29 h4 (kx _ hC15.keep) z z fun v4 h5=>?_
  obtain ⟨v5,rfl,h6⟩:=BM h5
  refine Ab<|tk 9 z z (Cp (vs:=[(1,(.agg #[(I x13.1),v5]))]) z z (built31_1 z))<|BD (vs:=[(1,(.agg #[(I x13.1),v5]))]) z z z (built31_1 z)<|Ab<|oe 10 z<|Aj (cs':=[(.bool false),(I x13.1),v5]) (new:=[(.bool false),(I x13.1),v5]) hC15 1 z z (fac z<|fac z<|fac (AT h6)<|fa0) z BS z z fun w12 hC16 hKp2=>?_
  try dsimp only [List.set] at hC16
  refine Ab<|dn<|Av<|AK<|A2<|?_
  obtain rfl:=Aa hF
  refine BR z (rv_cell_agg (cs':=[(.bool false),(I x13.1),v5]) hC16 (i:=1) z z z C4 BS z) ?_
  have hC18:=hC16.pushSh h6
  have hC17:=own_ch false x13.1 v5 x13.2 hC18
  have hC19:=hC17.h2
  exact ⟨_,z,_,z,hC19⟩
 replace hF:=AE hF hc2
 refine AM<|Av<|AA<|Ad<|Ae z z<|be hF fun x14 hr6 hF=>cb Cm z z (c_S_IsSchema a2 u2 (g2.now hC3.keep) x14 hr6) fun w13 hB7=>have hC20:=hC3.grow hB7;B2 z z<|Ab<|AL z (fun hc3=>?_) (fun hc3=>?_)
 ·replace hF:=AD hF hc3
  refine Ad<|BD (vs:=[(0,(.bool true))]) z z z (built31_0 z)<|Aj (cs':=[(.bool true),(I 0),(.slice none 0 0)]) (new:=[(.bool true),(I 0),(.slice none 0 0)]) hC20 0 z z (fac z<|fac z<|fac z<|fa0) z BS z z fun w14 hC21 hKp3=>?_
  try dsimp only [List.set] at hC21
  refine Ab (AK (A2 ?_))
  obtain rfl:=Aa hF
  refine BR z (rv_cell_agg (cs':=[(.bool true),(I 0),(.slice none 0 0)]) hC21 (i:=0) z z z C4 BS z)<|have hC22:=hC21.f2;?_
  have hC24:=hC22.triv (nil_val (α:=Int))
  have hC25:=hC24.toSh Dx wx
  have hC23:=own_ch true 0 (.slice none 0 0) ([]) hC25
  have hC26:=hC23.h2
  exact ⟨_,z,_,z,hC26⟩
 replace hF:=AE hF hc3
 refine AM<|Av<|Ad<|Ae z z<|Ae z z<|be hF fun x15 hr7 hF=>have hC27:=hC20.f2;?_
 obtain ⟨Fs4,hH4,hn4,hF4,hO4,hb4⟩:=AS (As:=[Ac b2 [(.bool false),(I 0),(.slice none 0 0)],Ac b1 [u3,(I a3.2)]]) [Ac pb1 [u1,(I x1),(I x2)]] hC27
 refine AJ Tryz.call66 z z (c_S_l2Fact pb1 (a1.1,x1,x2) u1 (AX g1 hC27.keep hF4) a2 u2 (AX g2 hC27.keep hF4) 4 hH4 hn4 x15 hr7) ?_
 rintro v6 w15 ⟨_,rfl,hq8⟩
 have hC28:Ctx Fs.flatten w0 w15 [Ag v6 (x15.1:(Int × (List Int))),Ac pb1 [u1,(I x15.2.2.1),(I x15.2.2.2)],Ac b2 [(.bool false),(I 0),(.slice none 0 0)],Ac b1 [u3,(I a3.2)]]:=hb4 _ _ hq8
 obtain ⟨v7,rfl,hC29⟩:=st29_own hC28
 refine BD (vs:=[(0,(.bool true)),(1,(.agg #[(I x15.1.1),v7]))]) z z z (built31_0_1 z z)<|Aj (cs':=[(.bool true),(I x15.1.1),v7]) (new:=[(.bool true),(I x15.1.1),v7]) hC29 2 z z (fac z<|fac z<|fac (AT (hC29.ro 0 z))<|fa0) z BS z z fun w16 hC30 hKp4=>?_
 try dsimp only [List.set] at hC30
 refine Ab (AK ?_)
 obtain rfl:=Aa hF
 refine BR z (rv_cell_agg (cs':=[(.bool true),(I x15.1.1),v7]) hC30 (i:=2) z z z C4 BS z)<|have hC31:=hC30.f1;have hC33:=hC31.f1;?_
 have hC34:=hC33.toSh Dx wx
 have hC32:=own_ch true x15.1.1 v7 x15.1.2 hC34
 have hC35:=hC32.h2
 exact ⟨_,z,_,z,hC35⟩
theorem c_S_l25Changes {w0:World} {Dx:List Nat} {wx:World} {Fs:List (List Nat)} (pb1:Nat) (a1:((List UInt8) × Int × Int)) (u1:Value) (g1:RO Fs.flatten w0 u1 a1.1) (a2:(List Int)) (u2:Value) (g2:RO Fs.flatten w0 u2 a2) (a3:((List (Int × (List Int))) × Int)) (u3:Value) (g3:RO Dx wx u3 a3.1) (kx:∀ w,Keep Fs.flatten w0 w → Keep Dx wx w) (hH:Hold [Ac pb1 [u1,(I a1.2.1),(I a1.2.2)]] w0 Fs) (hn:Fs.flatten.Nodup) (rr:((List (Bool × (Int × (List Int)))) × ((List UInt8) × Int × Int))) (hF:S.l25Changes a1 a2 a3=some rr) :
 Calls Tryz.prog 48 [(ptr pb1 0),u2,(.agg #[u3,(I a3.2)])].toArray w0 fun e w'=>∃v,e=.returned v∧∃q0:Value,v=q0∧Ctx Fs.flatten w0 w' [Ag (α:=(List (Ch Dx wx))) q0 rr.1,Ac pb1 [u1,(I rr.2.2.1),(I rr.2.2.2)]]:=by
 refine A3 Tryz.func48 z z ?_
 have hC0:=B6 hH hn
 unfold S.l25Changes at hF
 refine Ad<|Bz (cs:=[u3,(I a3.2)]) hC0 z z z fun b1 w1 hC1 hB1 hN1=>Af z z<|Ab<|Ad<|AN (vs:=[]) hC1 BI (tych Dx wx) z z z z (by simp) z z fun b2 w2 hC2 hB2=>?_
 have hC3:=hC2.row0 (α:=(Ch Dx wx))
 have hC4:=hC3.front 1 z
 dsimp only [List.eraseIdx,List.cons_append,List.nil_append,List.append_nil] at hC4
 have hC5:Ctx Fs.flatten w0 w2 (Ag (α:=List (Ch Dx wx)) (.slice (some ⟨b2,0,none⟩) 0 0) ([]:List (Bool × (Int × (List Int))))::[Ac b1 [u3,(I a3.2)],Ac pb1 [u1,(I a1.2.1),(I a1.2.2)]]):=hC4.rowOwn (by simp [maxLen])
 refine Af z z<|Ab<|AA<|Ad<|Ae z z<|be hF fun x1 hr1 hF=>have hC6:=hC5.f2;?_
 obtain ⟨Fs1,hH1,hn1,hF1,hO1,hb1⟩:=AS (As:=[Ag (α:=(List (Ch Dx wx))) (.slice (some ⟨b2,0,none⟩) 0 0) ([]:List (Bool × (Int × (List Int)))),Ac b1 [u3,(I a3.2)]]) [Ac pb1 [u1,(I a1.2.1),(I a1.2.2)]] hC6
 refine AJ B0 z z (c_S_l1Below pb1 (a1.1,a1.2.1,a1.2.2) u1 (AX g1 hC6.keep hF1) 5 hH1 hn1 x1 hr1) ?_
 rintro _ w3 ⟨rfl,hq1⟩
 have hC7:Ctx Fs.flatten w0 w3 [Ac pb1 [u1,(I x1.2.2.1),(I x1.2.2.2)],Ag (α:=(List (Ch Dx wx))) (.slice (some ⟨b2,0,none⟩) 0 0) ([]:List (Bool × (Int × (List Int)))),Ac b1 [u3,(I a3.2)]]:=hb1 _ _ hq1
 refine Af z z<|Ab<|be hF fun r1 hr2 hF=>Bx (fun l w=>∃x6:Int,∃x7:Int,∃v2:Value,∃x8:(List (Bool × (Int × (List Int)))),(x6,x7,x8)=r1∧l=[(7,v2)]∧Ctx Fs.flatten w0 w [Ac pb1 [u1,(I x6),(I x7)],Ag (α:=(List (Ch Dx wx))) v2 x8]) ?_ ?_
 ·refine Bb<|wS (l':=[(0,(ptr pb1 0)),(1,u2),(5,(ptr b1 0)),(7,(.slice (some ⟨b2,0,none⟩) 0 0)),(8,(I x1.1))]) ⟨z,z,z,z,z,Ak⟩<|BE (fun k l w=>∃x2:Int,∃x3:Int,∃v1:Value,∃x4:(List (Bool × (Int × (List Int)))),∃x5:Int,l=[(0,(ptr pb1 0)),(1,u2),(5,(ptr b1 0)),(7,v1),(8,(I x5))]∧Ctx Fs.flatten w0 w [Ac pb1 [u1,(I x2),(I x3)],Ag (α:=(List (Ch Dx wx))) v1 x4,Ac b1 [u3,(I a3.2)]]∧S.l25Changes_l1 a1 a2 a3 k x2 x3 x4 x5=some r1) FUEL ⟨x1.2.2.1,x1.2.2.2,(.slice (some ⟨b2,0,none⟩) 0 0),([]:List (Bool × (Int × (List Int)))),x1.1,z,hC7,hr2⟩<|?_
  clear hr2
  rintro k1 _ w4 ⟨x2,x3,v1,x4,x5,rfl,hC8,hL1⟩
  cases k1 with
  | zero=>rw [S.l25Changes_l1] at hL1; cases hL1
  | succ k1 =>
   rw [S.l25Changes_l1] at hL1
   refine AA<|Ad<|Ae z z<|Cr z z z<|Ab<|AL z (fun hc1=>?_) (fun hc1=>?_)
   ·replace hL1:=AD hL1 hc1
    refine AM<|Av<|AA<|Bb<|Bt<|Ae z z<|Ae z z<|Ae z z<|At [u3,(I a3.2)] hC8 2 z z z A8 Az z z<|be hL1 fun x9 hr3 hL1=>?_
    obtain ⟨Fs2,hH2,hn2,hF2,hO2,hb2⟩:=AS (As:=[Ag (α:=(List (Ch Dx wx))) v1 x4,Ac b1 [u3,(I a3.2)]]) [Ac pb1 [u1,(I x2),(I x3)]] hC8
    refine AJ Tryz.call31 z z (c_S_l25Change pb1 (a1.1,x2,x3) u1 (AX g1 hC8.keep hF2) a2 u2 (AX g2 hC8.keep hF2) (a3.1,a3.2) u3 g3 (fun w h=>kx w (hC8.keep.trans h hF2)) hH2 hn2 x9 hr3) ?_
    rintro v3 w5 ⟨_,rfl,hq2⟩
    have hC9:Ctx Fs.flatten w0 w5 [Ag (α:=(Ch Dx wx)) v3 x9.1,Ac pb1 [u1,(I x9.2.2.1),(I x9.2.2.2)],Ag (α:=(List (Ch Dx wx))) v1 x4,Ac b1 [u3,(I a3.2)]]:=hb2 _ _ hq2
    obtain ⟨v4,rfl,hC10⟩:=ch_own hC9
    refine AN (vs:=[(.agg #[(.bool x9.1.1),(I x9.1.2.1),v4])]) hC10 BI (tych Dx wx) z z z z (fac z<|fa0) z z (fun b3 w6 hC11 hB4=>?_)
    have hC12:=hC11.row0 (α:=(Ch Dx wx))
    have hC14:=hC12.f2
    have hC13:=own_ch x9.1.1 x9.1.2.1 v4 x9.1.2.2 hC14
    have hC15:=hC13.row1
    have hC16:=hC15.front 1 z
    dsimp only [List.eraseIdx,List.cons_append,List.nil_append,List.append_nil] at hC16
    have hC17:Ctx Fs.flatten w0 w6 (Ag (α:=List (Ch Dx wx)) (.slice (some ⟨b3,0,none⟩) 1 1) ([(x9.1.1,(x9.1.2.1,x9.1.2.2))])::[Ac pb1 [u1,(I x9.2.2.1),(I x9.2.2.2)],Ag (α:=(List (Ch Dx wx))) v1 x4,Ac b1 [u3,(I a3.2)]]):=hC16.rowOwn (by simp [maxLen])
    refine be hL1 fun x10 hx1 hL1=>BA hC17 1 z BI (tych Dx wx) z hx1 z z z fun v5 w7 hC18=>?_
    try dsimp only [List.set] at hC18
    exact Af z z<|Ab<|Bg<|Av<|Bt<|Ae z z<|BV z z z<|Af z z<|Ab<|Ay (l':=[(0,(ptr pb1 0)),(1,u2),(5,(ptr b1 0)),(7,v5),(8,(I (w64 (x5 - 1))))]) ⟨z,z,z,z,z,Ak⟩<|⟨k1,AO _,x9.2.2.1,x9.2.2.2,v5,x10,w64 (x5 - 1),z,hC18,hL1⟩
   replace hL1:=AE hL1 hc1
   refine BF (AW (AW (B4 ?_)))
   obtain rfl:=Aa hL1
   have hC20:=hC8.f1
   have hC21:=hC20.f1
   have hC22:=hC21.h2
   exact Ay (l':=[(7,v1)]) ⟨z,Ak⟩<|⟨x2,x3,v1,x4,z,z,hC22⟩
 rintro l2 _ w9 hs2 ⟨x6,x7,v2,x8,rfl,rfl,hC23⟩
 try dsimp only at hF
 refine Bm hs2 ?_
 clear hs2
 refine Ad<|Ae z z<|Af z z<|Ab<|AK<|?_
 obtain rfl:=Aa hF
 exact AB z z<|have hC24:=hC23.f1;⟨_,z,_,z,hC24⟩
theorem c_S_l5Access {w0:World} {Fs:List (List Nat)} (pb1:Nat) (a1:((List UInt8) × Int × Int)) (u1:Value) (g1:RO Fs.flatten w0 u1 a1.1) (a2:(List (Int × (List Int) × Int × Int × Int))) (u2:Value) (g2:RO Fs.flatten w0 u2 a2) (hH:Hold [Ac pb1 [u1,(I a1.2.1),(I a1.2.2)]] w0 Fs) (hn:Fs.flatten.Nodup) (rr:((Int × (List Int)) × ((List UInt8) × Int × Int))) (hF:S.l5Access a1 a2=some rr) :
 Calls Tryz.prog 54 [(ptr pb1 0),u2].toArray w0 fun e w'=>∃v,e=.returned v∧∃q0:Value,v=q0∧Ctx Fs.flatten w0 w' [Ag q0 (rr.1:(Int × (List Int))),Ac pb1 [u1,(I rr.2.2.1),(I rr.2.2.2)]]:=by
 refine A3 Tryz.func54 z z ?_
 have hC0:=B6 hH hn
 unfold S.l5Access at hF
 refine Ad<|Bd hC0 zero45 z z fun b1 w1 hC1 hB1 hN1=>Ab<|AA<|Ad<|Ae z z<|Bo Bi g2 z z<|BP z z z<|Ab<|AL z (fun hc1=>?_) (fun hc1=>?_)
 ·replace hF:=AD hF hc1
  refine Ad<|BD (vs:=[]) z z z built45<|Aj (cs':=[(I 0),(.slice none 0 0)]) (new:=[(I 0),(.slice none 0 0)]) hC1 0 z z (fac z<|fac z<|fa0) z A9 z z fun w2 hC2 hKp1=>?_
  try dsimp only [List.set] at hC2
  have hk1:=Ar (Al hB1) hN1 hKp1
  refine Ab (AK (A2 ?_))
  obtain rfl:=Aa hF
  refine BR z (rv_cell_agg (cs':=[(I 0),(.slice none 0 0)]) hC2 (i:=0) z z z Bl A9 z)<|have hC3:=hC2.f1;?_
  have hC5:=hC3.triv (nil_val (α:=Int))
  have hC4:=own_st45 0 (.slice none 0 0) ([]) hC5
  have hC6:=hC4.h2
  exact ⟨_,z,_,z,hC6⟩
 replace hF:=AE hF hc1
 refine AM<|Av<|Ad<|Ae z z<|Ae z z<|Bo Bi g2 z z<|be hF fun x1 hr1 hF=>have hC7:=hC1.f1;?_
 obtain ⟨Fs1,hH1,hn1,hF1,hO1,hb1⟩:=AS (As:=[Ac b1 [(I 0),(.slice none 0 0)]]) [Ac pb1 [u1,(I a1.2.1),(I a1.2.2)]] hC7
 refine AJ B0 z z (c_S_l1Below pb1 (a1.1,a1.2.1,a1.2.2) u1 (AX g1 hC7.keep hF1) (List.length a2:Int) hH1 hn1 x1 hr1) ?_
 rintro _ w3 ⟨rfl,hq2⟩
 have hC8:Ctx Fs.flatten w0 w3 [Ac pb1 [u1,(I x1.2.2.1),(I x1.2.2.2)],Ac b1 [(I 0),(.slice none 0 0)]]:=hb1 _ _ hq2
 refine BD (vs:=[(0,(I x1.1))]) z z z (built45_0 z)<|Bd hC8 zero45 z z fun b2 w4 hC9 hB2 hN2=>Aj (cs':=[(I x1.1),(.slice none 0 0)]) (new:=[(I x1.1),(.slice none 0 0)]) hC9 0 z z (fac z<|fac z<|fa0) z A9 z z fun w5 hC10 hKp2=>?_
 try dsimp only [List.set] at hC10
 have hk2:=Ar (Al hB2) hN2 hKp2
 refine Ab<|AA<|Ad<|Af z z<|Ab<|be hF fun r1 hr2 hF=>Bx (fun l w=>∃x7:Int,∃v2:Value,∃x8:(List Int),∃x9:Int,∃x10:Int,(x7,x8,x9,x10)=r1∧l=[(4,(ptr b1 0)),(5,(ptr b2 0))]∧Ctx Fs.flatten w0 w [Ag v2 (x8:(List Int)),Ac b2 [(I x7),v2],Ac pb1 [u1,(I x9),(I x10)],Ac b1 [(I 0),(.slice none 0 0)]]) ?_ ?_
 ·refine Bb ?_
  have hC27:=hC10.triv (nil_val (α:=Int))
  refine wS (l':=[(0,(ptr pb1 0)),(1,u2),(4,(ptr b1 0)),(5,(ptr b2 0)),(6,(I 0))]) ⟨z,z,z,z,z,Ak⟩<|BE (fun k l w=>∃x2:Int,∃v1:Value,∃x3:(List Int),∃x4:Int,∃x5:Int,∃x6:Int,l=[(0,(ptr pb1 0)),(1,u2),(4,(ptr b1 0)),(5,(ptr b2 0)),(6,(I x6))]∧Ctx Fs.flatten w0 w [Ag v1 (x3:(List Int)),Ac b2 [(I x2),v1],Ac pb1 [u1,(I x4),(I x5)],Ac b1 [(I 0),(.slice none 0 0)]]∧S.l5Access_l1 a2 a1 k x2 x3 x4 x5 x6=some r1) FUEL ⟨x1.1,(.slice none 0 0),[],x1.2.2.1,x1.2.2.2,0,z,hC27,hr2⟩<|?_
  clear hr2
  rintro k1 _ w6 ⟨x2,v1,x3,x4,x5,x6,rfl,hC11,hL1⟩
  cases k1 with
  | zero=>rw [S.l5Access_l1] at hL1; cases hL1
  | succ k1 =>
   rw [S.l5Access_l1] at hL1
   refine AA<|Ad<|Ae z z<|Ae z z<|fd AV Ax z z z z<|Aq hC11 1 z z A6 z z<|be hL1 fun x11 hx1 hL1=>AZ Bi ty93 g2 hx1 z z z fun b3 o1 h1=>fd AP A4 z z z z<|Be ty24 h1.snd.fst hC11.keep z z fun v3 h2=>Bo Ap h2 z z<|B8 z z z<|Ab<|AL z (fun hc2=>?_) (fun hc2=>?_)
   ·replace hL1:=AD hL1 hc2
    refine AM<|Av<|AA<|Bb<|Ad<|Ae z z<|be hL1 fun x12 hr3 hL1=>have hC12:=hC11.f2;?_
    obtain ⟨Fs2,hH2,hn2,hF2,hO2,hb2⟩:=AS (As:=[Ag v1 (x3:(List Int)),Ac b2 [(I x2),v1],Ac b1 [(I 0),(.slice none 0 0)]]) [Ac pb1 [u1,(I x4),(I x5)]] hC12
    refine AJ B0 z z (c_S_l1Below pb1 (a1.1,x4,x5) u1 (AX g1 hC12.keep hF2) 4 hH2 hn2 x12 hr3) ?_
    rintro _ w7 ⟨rfl,hq3⟩
    have hC13:Ctx Fs.flatten w0 w7 [Ac pb1 [u1,(I x12.2.2.1),(I x12.2.2.2)],Ag v1 (x3:(List Int)),Ac b2 [(I x2),v1],Ac b1 [(I 0),(.slice none 0 0)]]:=hb2 _ _ hq3
    refine Af z z<|Ab<|Bt<|fd AV A4 z z z z<|Aq hC13 2 z z AU z z<|Ae z z<|AN (vs:=[(I x12.1)]) hC13 Ap ty3 z z z z (fac z<|fa0) z z fun b4 w9 hC14 hB4=>?_
    have hC15:=hC14.row0 (α:=Int)
    have hC16:=hC15.triv (Bv (x12.1))
    have hC17:=hC16.row1
    have hC18:=hC17.front 1 z
    dsimp only [List.eraseIdx,List.cons_append,List.nil_append,List.append_nil] at hC18
    have hC19:Ctx Fs.flatten w0 w9 (Ag (.slice (some ⟨b4,0,none⟩) 1 1) ([x12.1]:List Int)::[Ac pb1 [u1,(I x12.2.2.1),(I x12.2.2.2)],Ag v1 (x3:(List Int)),Ac b2 [(I x2),v1],Ac b1 [(I 0),(.slice none 0 0)]]):=hC18.rowOwn (by simp [maxLen])
    refine be hL1 fun x13 hx2 hL1=>BN (α:=Int) hC19 2 z (hC19.ro 0 z) (B5 _ _) Ap ty3 z hx2 z z z fun v4 w10 hC20=>?_
    try dsimp only [List.set] at hC20
    refine fd AV A4 z z z z<|Bc (cs':=[(I x2),v4]) hC20 3 z z (AT (hC20.ro 2 z)) z A4 z z fun w11 hC21 hKp3=>?_
    try dsimp only [List.set] at hC21
    exact Ab<|Bg<|Av<|Bt<|Ae z z<|Bw z z z<|Af z z<|Ab<|have hC22:=hC21.f4;have hC23:=hC22.f2;have hC24:=hC23.f4;have hC25:=hC24.f4;have hC26:=hC25.h4;Ay (l':=[(0,(ptr pb1 0)),(1,u2),(4,(ptr b1 0)),(5,(ptr b2 0)),(6,(I (w64 (x6+1))))]) ⟨z,z,z,z,z,Ak⟩<|⟨k1,AO _,x2,v4,x13,x12.2.2.1,x12.2.2.2,w64 (x6+1),z,hC26,hL1⟩
   replace hL1:=AE hL1 hc2
   refine BF (AW (AW (B4 ?_)))
   obtain rfl:=Aa hL1
   exact Ay (l':=[(4,(ptr b1 0)),(5,(ptr b2 0))]) ⟨z,z,Ak⟩<|⟨x2,v1,x3,x4,x5,z,z,hC11⟩
 rintro l2 _ w12 hs2 ⟨x7,v2,x8,x9,x10,rfl,rfl,hC28⟩
 try dsimp only at hF
 refine Bm hs2 ?_
 clear hs2
 refine Ad<|At [(I x7),v2] hC28 1 z z z Bl A9 z z<|Aj (cs':=[(I x7),v2]) (new:=[(I x7),v2]) hC28 3 z z (fac z<|fac (AT (hC28.ro 0 z))<|fa0) z A9 z z fun w13 hC29 hKp4=>?_
 try dsimp only [List.set] at hC29
 refine Ab (AK ?_)
 obtain rfl:=Aa hF
 refine BR z (rv_cell_agg (cs':=[(I x7),v2]) hC29 (i:=3) z z z Bl A9 z)<|have hC30:=hC29.f2;have hC32:=hC30.f1;?_
 have hC31:=own_st45 x7 v2 x8 hC32
 have hC33:=hC31.h2
 exact ⟨_,z,_,z,hC33⟩
theorem c_S_DrawReadThrough {w0:World} (a1:(List UInt8)) (u1:Value) (g1:RO [] w0 u1 a1) (rr:((List Int) × (List (Int × (List Int) × Int × Int × Int)) × ((List (Int × (List Int))) × Int) × (Int × (List Int)) × Int × (List (Bool × (Int × (List Int)))) × Int)) (hF:S.DrawReadThrough a1=some rr) :
 Calls Tryz.prog 22 [u1].toArray w0 fun e w'=>∃v,e=.returned v∧∃q0:Value,∃q1:Value,∃q2:Value,∃q3:Value,∃q4:Value,v=(.tuple #[q0,q1,(.agg #[q2,(I rr.2.2.1.2)]),(.agg #[(I rr.2.2.2.1.1),q3]),(I rr.2.2.2.2.1),q4,(I rr.2.2.2.2.2.2)])∧Below w0.heap.size w0 w'∧RO [] w' q0 rr.1∧RO [] w' q1 rr.2.1∧RO [] w' q2 rr.2.2.1.1∧RO [] w' q3 rr.2.2.2.1.2∧RO [] w' q4 rr.2.2.2.2.2.1:=by
 refine A3 Tryz.func22 z z ?_
 have hC0:=AH w0
 unfold S.DrawReadThrough at hF
 refine Ad<|Af z z<|Af z z<|Bd hC0 zero27 z z fun b1 w1 hC1 hB1 hN1=>Bd hC1 zero45 z z fun b2 w2 hC2 hB2 hN2=>Af z z<|Af z z<|Af z z<|Ab<|Ad<|Ae z z<|be hF fun x1 hr1 hF=>AJ Tryz.call27 z z (c_S_l1New a1 u1 (g1.now hC2.keep) x1 hr1)<|?_
 rintro _ w3 ⟨b3,rfl,hq1⟩
 have hC3:Ctx [] w0 w3 [Ac b3 [u1,(I x1.2.1),(I x1.2.2)],Ac b2 [(I 0),(.slice none 0 0)],Ac b1 [(.slice none 0 0),(I 0)]]:=hC2.push2 hq1
 refine Af z z<|Ab<|Ad<|Ae z z<|be hF fun x2 hr2 hF=>?_
 obtain ⟨Fs2,hH2,hn2,hF2,hO2,hb2⟩:=AS (As:=[Ac b2 [(I 0),(.slice none 0 0)],Ac b1 [(.slice none 0 0),(I 0)]]) [Ac b3 [u1,(I x1.2.1),(I x1.2.2)]] hC3
 refine AJ Tryz.call28 z z (c_S_l25Draw b3 (a1,x1.2.1,x1.2.2) u1 (AX g1 hC3.keep hF2) hH2 hn2 x2 hr2) ?_
 rintro _ w4 ⟨v1,v2,v3,rfl,hq2⟩
 have hC4:Ctx [] w0 w4 [Ag v1 (x2.1:(List Int)),Ag v2 (x2.2.1:(List (Int × (List Int) × Int × Int × Int))),Ag v3 (x2.2.2.1:((List (Int × (List Int))) × Int)),Ac b3 [u1,(I x2.2.2.2.2.1),(I x2.2.2.2.2.2)],Ac b2 [(I 0),(.slice none 0 0)],Ac b1 [(.slice none 0 0),(I 0)]]:=hb2 _ _ hq2
 have hC5:=hC4.f2
 obtain ⟨v4,rfl,hC6⟩:=st27_own hC5
 have hC7:=hC6.f5
 have hC8:=hC7.f5
 have hC9:=hC8.f5
 obtain ⟨Fs3,hH3,hn3,hF3,hO3,hb3⟩:=AS (As:=[Ag v4 (x2.2.2.1.1:(List (Int × (List Int)))),Ag v1 (x2.1:(List Int)),Ag v2 (x2.2.1:(List (Int × (List Int) × Int × Int × Int)))]) [Ac b3 [u1,(I x2.2.2.2.2.1),(I x2.2.2.2.2.2)],Ac b2 [(I 0),(.slice none 0 0)],Ac b1 [(.slice none 0 0),(I 0)]] hC9
 have g2:=hO3 0 _ _ _ z
 have g3:=hO3 1 _ _ _ z
 have g4:=hO3 2 _ _ _ z
 have g5:=AX g1 hC9.keep hF3
 have hC10:=B6 hH3 hn3
 refine Ae z z<|Bn z z z<|Bn z z z<|Bn z z z<|Bd hC10 zero27 z z fun b4 w5 hC11 hB3 hN3=>Af z z<|Af z z<|Aj (cs':=[v4,(I x2.2.2.1.2)]) (new:=[v4,(I x2.2.2.1.2)]) hC11 0 z z (fac (AT g2)<|fac z<|fa0) z Az z z fun w6 hC12 hKp1=>?_
 try dsimp only [List.set] at hC12
 have hk1:=Ar (Al hB3) hN3 hKp1
 refine Ab<|Ad<|Ae z z<|Ae z z<|be hF fun x3 hr3 hF=>have hC13:=hC12.f1;?_
 obtain ⟨Fs4,hH4,hn4,hF4,hO4,hb4⟩:=AS (As:=[Ac b4 [v4,(I x2.2.2.1.2)],Ac b2 [(I 0),(.slice none 0 0)],Ac b1 [(.slice none 0 0),(I 0)]]) [Ac b3 [u1,(I x2.2.2.2.2.1),(I x2.2.2.2.2.2)]] hC13
 refine AJ Tryz.call54 z z (c_S_l5Access b3 (a1,x2.2.2.2.2.1,x2.2.2.2.2.2) u1 (AX g5 hC13.keep hF4) x2.2.1 v2 (AX g4 hC13.keep hF4) hH4 hn4 x3 hr3) ?_
 rintro v5 w7 ⟨_,rfl,hq3⟩
 have hC14:Ctx Fs3.flatten w4 w7 [Ag v5 (x3.1:(Int × (List Int))),Ac b3 [u1,(I x3.2.2.1),(I x3.2.2.2)],Ac b4 [v4,(I x2.2.2.1.2)],Ac b2 [(I 0),(.slice none 0 0)],Ac b1 [(.slice none 0 0),(I 0)]]:=hb4 _ _ hq3
 obtain ⟨v6,rfl,hC15⟩:=st45_own hC14
 refine Bd hC15 zero45 z z fun b5 w9 hC16 hB4 hN4=>Aj (cs':=[(I x3.1.1),v6]) (new:=[(I x3.1.1),v6]) hC16 0 z z (fac z<|fac (AT (hC16.ro 1 z))<|fa0) z A9 z z fun w10 hC17 hKp2=>?_
 try dsimp only [List.set] at hC17
 have hk2:=Ar (Al hB4) hN4 hKp2
 refine Ab<|Ad<|Ae z z<|be hF fun x4 hr4 hF=>have hC18:=hC17.f2;?_
 obtain ⟨Fs5,hH5,hn5,hF5,hO5,hb5⟩:=AS (As:=[Ac b5 [(I x3.1.1),v6],Ag v6 (x3.1.2:(List Int)),Ac b4 [v4,(I x2.2.2.1.2)],Ac b2 [(I 0),(.slice none 0 0)],Ac b1 [(.slice none 0 0),(I 0)]]) [Ac b3 [u1,(I x3.2.2.1),(I x3.2.2.2)]] hC18
 refine AJ B0 z z (c_S_l1Below b3 (a1,x3.2.2.1,x3.2.2.2) u1 (AX g5 hC18.keep hF5) 3 hH5 hn5 x4 hr4) ?_
 rintro _ w11 ⟨rfl,hq4⟩
 have hC19:Ctx Fs3.flatten w4 w11 [Ac b3 [u1,(I x4.2.2.1),(I x4.2.2.2)],Ac b5 [(I x3.1.1),v6],Ag v6 (x3.1.2:(List Int)),Ac b4 [v4,(I x2.2.2.1.2)],Ac b2 [(I 0),(.slice none 0 0)],Ac b1 [(.slice none 0 0),(I 0)]]:=hb5 _ _ hq4
 refine Bw z z z<|Af z z<|Ab<|AA<|Ad<|Ae z z<|be hF fun x5 hr5 hF=>?_
 obtain ⟨Fs6,hH6,hn6,hF6,hO6,hb6⟩:=AS (As:=[Ac b5 [(I x3.1.1),v6],Ag v6 (x3.1.2:(List Int)),Ac b4 [v4,(I x2.2.2.1.2)],Ac b2 [(I 0),(.slice none 0 0)],Ac b1 [(.slice none 0 0),(I 0)]]) [Ac b3 [u1,(I x4.2.2.1),(I x4.2.2.2)]] hC19
 refine AJ Ct z z (c_S_l1Once b3 (a1,x4.2.2.1,x4.2.2.2) u1 (AX g5 hC19.keep hF6) 12 hH6 hn6 x5 hr5) ?_
 rintro _ w12 ⟨rfl,hq5⟩
 have hC20:Ctx Fs3.flatten w4 w12 [Ac b3 [u1,(I x5.2.2.1),(I x5.2.2.2)],Ac b5 [(I x3.1.1),v6],Ag v6 (x3.1.2:(List Int)),Ac b4 [v4,(I x2.2.2.1.2)],Ac b2 [(I 0),(.slice none 0 0)],Ac b1 [(.slice none 0 0),(I 0)]]:=hb6 _ _ hq5
 refine Ab<|be hF fun r1 hr6 hF=>Bx (fun l w=>∃x6:Int,∃x7:Int,∃x8:Int,(x6,x7,x8)=r1∧l=[(4,(ptr b1 0)),(5,(ptr b2 0)),(9,(ptr b3 0)),(10,v1),(11,v2),(12,(ptr b4 0)),(13,(ptr b5 0)),(14,(I x8))]∧Ctx Fs3.flatten w4 w [Ac b3 [u1,(I x6),(I x7)],Ac b5 [(I x3.1.1),v6],Ag v6 (x3.1.2:(List Int)),Ac b4 [v4,(I x2.2.2.1.2)],Ac b2 [(I 0),(.slice none 0 0)],Ac b1 [(.slice none 0 0),(I 0)]]) ?_ ?_
 ·refine AL z (fun hc1=>?_) (fun hc1=>?_)
  ·replace hr6:=AD hr6 hc1
   refine Bt<|Ae z z<|AN (vs:=[(I 0),(I 9),(I 10)]) hC20 Ap ty3 z z z z (fac z<|fac z<|fac z<|fa0) z z fun b6 w14 hC22 hB6=>?_
   have hC23:=hC22.row0 (α:=Int)
   have hC24:=hC23.triv (Bv (10))
   have hC25:=hC24.row1
   have hC26:=hC25.triv (Bv (9))
   have hC27:=hC26.row1
   have hC28:=hC27.triv (Bv (0))
   have hC29:=hC28.row1
   have hC30:=hC29.front 1 z
   dsimp only [List.eraseIdx,List.cons_append,List.nil_append,List.append_nil] at hC30
   have hC31:Ctx Fs3.flatten w4 w14 (Ag (.slice (some ⟨b6,0,none⟩) 3 3) ([0,9,10]:List Int)::[Ac b3 [u1,(I x5.2.2.1),(I x5.2.2.2)],Ac b5 [(I x3.1.1),v6],Ag v6 (x3.1.2:(List Int)),Ac b4 [v4,(I x2.2.2.1.2)],Ac b2 [(I 0),(.slice none 0 0)],Ac b1 [(.slice none 0 0),(I 0)]]):=hC30.rowOwn (by simp [maxLen])
   refine be hr6 fun x9 hr7 hr6=>have hC32:=hC31.f1;?_
   obtain ⟨Fs7,hH7,hn7,hF7,hO7,hb7⟩:=AS (As:=[Ag (.slice (some ⟨b6,0,none⟩) 3 3) ([0,9,10]:(List Int)),Ac b5 [(I x3.1.1),v6],Ag v6 (x3.1.2:(List Int)),Ac b4 [v4,(I x2.2.2.1.2)],Ac b2 [(I 0),(.slice none 0 0)],Ac b1 [(.slice none 0 0),(I 0)]]) [Ac b3 [u1,(I x5.2.2.1),(I x5.2.2.2)]] hC32
   refine AJ BY z z (c_S_l1PickInt b3 (a1,x5.2.2.1,x5.2.2.2) u1 (AX g5 hC32.keep hF7) ([0,9,10]) (.slice (some ⟨b6,0,none⟩) 3 3) (hO7 0 _ _ _ z) hH7 hn7 x9 hr7) ?_
   rintro _ w15 ⟨rfl,hq6⟩
   have hC33:Ctx Fs3.flatten w4 w15 [Ac b3 [u1,(I x9.2.2.1),(I x9.2.2.2)],Ag (.slice (some ⟨b6,0,none⟩) 3 3) ([0,9,10]:(List Int)),Ac b5 [(I x3.1.1),v6],Ag v6 (x3.1.2:(List Int)),Ac b4 [v4,(I x2.2.2.1.2)],Ac b2 [(I 0),(.slice none 0 0)],Ac b1 [(.slice none 0 0),(I 0)]]:=hb7 _ _ hq6
   refine Af z z<|Ab<|?_
   obtain rfl:=Aa hr6
   have hC34:=hC33.f6
   have hC35:=hC34.f6
   have hC36:=hC35.f6
   have hC37:=hC36.f6
   have hC38:=hC37.f6
   have hC39:=hC38.f5
   have hC40:=hC39.h6
   exact Ay (l':=[(4,(ptr b1 0)),(5,(ptr b2 0)),(9,(ptr b3 0)),(10,v1),(11,v2),(12,(ptr b4 0)),(13,(ptr b5 0)),(14,(I x9.1))]) ⟨z,z,z,z,z,z,z,z,Ak⟩<|⟨x9.2.2.1,x9.2.2.2,x9.1,z,z,hC40⟩
  replace hr6:=AE hr6 hc1
  refine AM ?_
  obtain rfl:=Aa hr6
  exact Ay (l':=[(4,(ptr b1 0)),(5,(ptr b2 0)),(9,(ptr b3 0)),(10,v1),(11,v2),(12,(ptr b4 0)),(13,(ptr b5 0)),(14,(I (w64 (1+x4.1))))]) ⟨z,z,z,z,z,z,z,z,Ak⟩<|⟨x5.2.2.1,x5.2.2.2,w64 (1+x4.1),z,z,hC20⟩
 rintro l1 _ w13 hs1 ⟨x6,x7,x8,rfl,rfl,hC21⟩
 try dsimp only at hF
 refine Bm hs1 ?_
 clear hs1
 refine Ad<|Ae z z<|Ae z z<|At [v4,(I x2.2.2.1.2)] hC21 3 z z z A8 Az z z<|be hF fun x10 hr8 hF=>?_
 obtain ⟨Fs8,hH8,hn8,hF8,hO8,hb8⟩:=AS (As:=[Ac b5 [(I x3.1.1),v6],Ag v6 (x3.1.2:(List Int)),Ac b4 [v4,(I x2.2.2.1.2)],Ac b2 [(I 0),(.slice none 0 0)],Ac b1 [(.slice none 0 0),(I 0)]]) [Ac b3 [u1,(I x6),(I x7)]] hC21
 refine AJ Tryz.call48 z z (c_S_l25Changes b3 (a1,x6,x7) u1 (AX g5 hC21.keep hF8) x2.1 v1 (AX g3 hC21.keep hF8) (x2.2.2.1.1,x2.2.2.1.2) v4 g2 (fun w h=>hC21.keep.trans h hF8) hH8 hn8 x10 hr8) ?_
 rintro v7 w16 ⟨_,rfl,hq9⟩
 have hC41:Ctx Fs3.flatten w4 w16 [Ag (α:=(List (Ch Fs3.flatten w4))) v7 x10.1,Ac b3 [u1,(I x10.2.2.1),(I x10.2.2.2)],Ac b5 [(I x3.1.1),v6],Ag v6 (x3.1.2:(List Int)),Ac b4 [v4,(I x2.2.2.1.2)],Ac b2 [(I 0),(.slice none 0 0)],Ac b1 [(.slice none 0 0),(I 0)]]:=hb8 _ _ hq9
 refine Af z z<|Ab<|AA<|W_drawn 16 z hmix fun w22 hB9=>have hC48:=hC41.grow hB9;tm 0 z z z<|tm 1 z z z<|tm 4 z z z<|tm 5 z z z<|tm 6 z z z<|WA_all3 (i:=2) (j:=3) (m:=7) (by kernel_rfl) z z z ?_ ?_ ?_
 ·refine At [v4,(I x2.2.2.1.2)] hC48 4 z z z A8 Az z z<|Ab<|Ci (i:=3) (j:=7) (by kernel_rfl) z z ?_ ?_
  ·refine At [(I x3.1.1),v6] hC48 2 z z z Bl A9 z z<|Ab<|be hF fun x23 hr11 hF=>oe 7 z<|have hC49:=hC48.f1;?_
   obtain ⟨Fs10,hH10,hn10,hF10,hO10,hb10⟩:=AS (As:=[Ag (α:=(List (Ch Fs3.flatten w4))) v7 x10.1,Ac b5 [(I x3.1.1),v6],Ag v6 (x3.1.2:(List Int)),Ac b4 [v4,(I x2.2.2.1.2)],Ac b2 [(I 0),(.slice none 0 0)],Ac b1 [(.slice none 0 0),(I 0)]]) [Ac b3 [u1,(I x10.2.2.1),(I x10.2.2.2)]] hC49
   refine AJ B0 z z (c_S_l1Below b3 (a1,x10.2.2.1,x10.2.2.2) u1 (AX g5 hC49.keep hF10) 6 hH10 hn10 x23 hr11) ?_
   rintro _ w23 ⟨rfl,hq11⟩
   have hC50:Ctx Fs3.flatten w4 w23 [Ac b3 [u1,(I x23.2.2.1),(I x23.2.2.2)],Ag (α:=(List (Ch Fs3.flatten w4))) v7 x10.1,Ac b5 [(I x3.1.1),v6],Ag v6 (x3.1.2:(List Int)),Ac b4 [v4,(I x2.2.2.1.2)],Ac b2 [(I 0),(.slice none 0 0)],Ac b1 [(.slice none 0 0),(I 0)]]:=hb10 _ _ hq11
   refine Ab<|tk 8 z z (Cz z z)<|BV z z z<|Ab<|ta 9 z z z<|ta 10 z z z<|oe 11 z<|Aj (cs':=[v4,(I x2.2.2.1.2)]) (new:=[v4,(I x2.2.2.1.2)]) hC50 6 z z (fac (AT g2)<|fac z<|fa0) z Az z z fun w24 hC51 hKp5=>?_
   try dsimp only [List.set] at hC51
   refine Ab<|oe 12 z<|Aj (cs':=[(I x3.1.1),v6]) (new:=[(I x3.1.1),v6]) hC51 5 z z (fac z<|fac (AT (hC51.ro 3 z))<|fa0) z A9 z z fun w25 hC52 hKp6=>?_
   try dsimp only [List.set] at hC52
   refine Ab<|ta 13 z z z<|ta 14 z z z<|ta 15 z z z<|dn<|Av<|AK<|?_
   obtain rfl:=Aa hF
   exact C7 z (rv_tmp z) (rv_tmp z) (rv_cell_agg (cs':=[v4,(I x2.2.2.1.2)]) hC52 (i:=6) z z z A8 Az z) (rv_cell_agg (cs':=[(I x3.1.1),v6]) hC52 (i:=5) z z z Bl A9 z) (rv_tmp z) (rv_tmp z) (rv_tmp z)<|⟨_,z,_,_,_,_,_,z,(hb3 _ _ hC52).keep.below,(g3.now hC52.keep),(g4.now hC52.keep),(g2.now hC52.keep),(hC52.ro 3 z),(hC52.roCh 1 z)⟩
  refine be hF fun x23 hr11 hF=>have hC49:=hC48.f1;?_
  obtain ⟨Fs10,hH10,hn10,hF10,hO10,hb10⟩:=AS (As:=[Ag (α:=(List (Ch Fs3.flatten w4))) v7 x10.1,Ac b5 [(I x3.1.1),v6],Ag v6 (x3.1.2:(List Int)),Ac b4 [v4,(I x2.2.2.1.2)],Ac b2 [(I 0),(.slice none 0 0)],Ac b1 [(.slice none 0 0),(I 0)]]) [Ac b3 [u1,(I x10.2.2.1),(I x10.2.2.2)]] hC49
  refine AJ B0 z z (c_S_l1Below b3 (a1,x10.2.2.1,x10.2.2.2) u1 (AX g5 hC49.keep hF10) 6 hH10 hn10 x23 hr11) ?_
  rintro _ w23 ⟨rfl,hq11⟩
  have hC50:Ctx Fs3.flatten w4 w23 [Ac b3 [u1,(I x23.2.2.1),(I x23.2.2.2)],Ag (α:=(List (Ch Fs3.flatten w4))) v7 x10.1,Ac b5 [(I x3.1.1),v6],Ag v6 (x3.1.2:(List Int)),Ac b4 [v4,(I x2.2.2.1.2)],Ac b2 [(I 0),(.slice none 0 0)],Ac b1 [(.slice none 0 0),(I 0)]]:=hb10 _ _ hq11
  refine Ab<|tk 8 z z (Cz z z)<|BV z z z<|Ab<|ta 9 z z z<|ta 10 z z z<|Ci (i:=3) (j:=11) (by kernel_rfl) z z ?_ ?_
  ·refine At [(I x3.1.1),v6] hC50 2 z z z Bl A9 z z<|Ab<|oe 11 z<|Aj (cs':=[v4,(I x2.2.2.1.2)]) (new:=[v4,(I x2.2.2.1.2)]) hC50 6 z z (fac (AT g2)<|fac z<|fa0) z Az z z fun w24 hC51 hKp5=>?_
   try dsimp only [List.set] at hC51
   refine Ab<|oe 12 z<|Aj (cs':=[(I x3.1.1),v6]) (new:=[(I x3.1.1),v6]) hC51 5 z z (fac z<|fac (AT (hC51.ro 3 z))<|fa0) z A9 z z fun w25 hC52 hKp6=>?_
   try dsimp only [List.set] at hC52
   refine Ab<|ta 13 z z z<|ta 14 z z z<|ta 15 z z z<|dn<|Av<|AK<|?_
   obtain rfl:=Aa hF
   exact C7 z (rv_tmp z) (rv_tmp z) (rv_cell_agg (cs':=[v4,(I x2.2.2.1.2)]) hC52 (i:=6) z z z A8 Az z) (rv_cell_agg (cs':=[(I x3.1.1),v6]) hC52 (i:=5) z z z Bl A9 z) (rv_tmp z) (rv_tmp z) (rv_tmp z)<|⟨_,z,_,_,_,_,_,z,(hb3 _ _ hC52).keep.below,(g3.now hC52.keep),(g4.now hC52.keep),(g2.now hC52.keep),(hC52.ro 3 z),(hC52.roCh 1 z)⟩
  refine Aj (cs':=[v4,(I x2.2.2.1.2)]) (new:=[v4,(I x2.2.2.1.2)]) hC50 6 z z (fac (AT g2)<|fac z<|fa0) z Az z z (fun w24 hC51 hKp5=>?_)
  try dsimp only [List.set] at hC51
  refine Ab<|oe 3 z<|At [(I x3.1.1),v6] hC51 2 z z z Bl A9 z z<|Ab<|oe 12 z<|Aj (cs':=[(I x3.1.1),v6]) (new:=[(I x3.1.1),v6]) hC51 5 z z (fac z<|fac (AT (hC51.ro 3 z))<|fa0) z A9 z z fun w25 hC52 hKp6=>?_
  try dsimp only [List.set] at hC52
  refine Ab<|ta 13 z z z<|ta 14 z z z<|ta 15 z z z<|dn<|Av<|AK<|?_
  obtain rfl:=Aa hF
  exact C7 z (rv_tmp z) (rv_tmp z) (rv_cell_agg (cs':=[v4,(I x2.2.2.1.2)]) hC52 (i:=6) z z z A8 Az z) (rv_cell_agg (cs':=[(I x3.1.1),v6]) hC52 (i:=5) z z z Bl A9 z) (rv_tmp z) (rv_tmp z) (rv_tmp z)<|⟨_,z,_,_,_,_,_,z,(hb3 _ _ hC52).keep.below,(g3.now hC52.keep),(g4.now hC52.keep),(g2.now hC52.keep),(hC52.ro 3 z),(hC52.roCh 1 z)⟩
 ·refine At [(I x3.1.1),v6] hC48 2 z z z Bl A9 z z<|Ab<|Ci (i:=2) (j:=7) (by kernel_rfl) z z ?_ ?_
  ·refine At [v4,(I x2.2.2.1.2)] hC48 4 z z z A8 Az z z<|Ab<|be hF fun x23 hr11 hF=>oe 7 z<|have hC49:=hC48.f1;?_
   obtain ⟨Fs10,hH10,hn10,hF10,hO10,hb10⟩:=AS (As:=[Ag (α:=(List (Ch Fs3.flatten w4))) v7 x10.1,Ac b5 [(I x3.1.1),v6],Ag v6 (x3.1.2:(List Int)),Ac b4 [v4,(I x2.2.2.1.2)],Ac b2 [(I 0),(.slice none 0 0)],Ac b1 [(.slice none 0 0),(I 0)]]) [Ac b3 [u1,(I x10.2.2.1),(I x10.2.2.2)]] hC49
   refine AJ B0 z z (c_S_l1Below b3 (a1,x10.2.2.1,x10.2.2.2) u1 (AX g5 hC49.keep hF10) 6 hH10 hn10 x23 hr11) ?_
   rintro _ w23 ⟨rfl,hq11⟩
   have hC50:Ctx Fs3.flatten w4 w23 [Ac b3 [u1,(I x23.2.2.1),(I x23.2.2.2)],Ag (α:=(List (Ch Fs3.flatten w4))) v7 x10.1,Ac b5 [(I x3.1.1),v6],Ag v6 (x3.1.2:(List Int)),Ac b4 [v4,(I x2.2.2.1.2)],Ac b2 [(I 0),(.slice none 0 0)],Ac b1 [(.slice none 0 0),(I 0)]]:=hb10 _ _ hq11
   refine Ab<|tk 8 z z (Cz z z)<|BV z z z<|Ab<|ta 9 z z z<|ta 10 z z z<|oe 11 z<|Aj (cs':=[v4,(I x2.2.2.1.2)]) (new:=[v4,(I x2.2.2.1.2)]) hC50 6 z z (fac (AT g2)<|fac z<|fa0) z Az z z fun w24 hC51 hKp5=>?_
   try dsimp only [List.set] at hC51
   refine Ab<|oe 12 z<|Aj (cs':=[(I x3.1.1),v6]) (new:=[(I x3.1.1),v6]) hC51 5 z z (fac z<|fac (AT (hC51.ro 3 z))<|fa0) z A9 z z fun w25 hC52 hKp6=>?_
   try dsimp only [List.set] at hC52
   refine Ab<|ta 13 z z z<|ta 14 z z z<|ta 15 z z z<|dn<|Av<|AK<|?_
   obtain rfl:=Aa hF
   exact C7 z (rv_tmp z) (rv_tmp z) (rv_cell_agg (cs':=[v4,(I x2.2.2.1.2)]) hC52 (i:=6) z z z A8 Az z) (rv_cell_agg (cs':=[(I x3.1.1),v6]) hC52 (i:=5) z z z Bl A9 z) (rv_tmp z) (rv_tmp z) (rv_tmp z)<|⟨_,z,_,_,_,_,_,z,(hb3 _ _ hC52).keep.below,(g3.now hC52.keep),(g4.now hC52.keep),(g2.now hC52.keep),(hC52.ro 3 z),(hC52.roCh 1 z)⟩
  refine be hF fun x23 hr11 hF=>have hC49:=hC48.f1;?_
  obtain ⟨Fs10,hH10,hn10,hF10,hO10,hb10⟩:=AS (As:=[Ag (α:=(List (Ch Fs3.flatten w4))) v7 x10.1,Ac b5 [(I x3.1.1),v6],Ag v6 (x3.1.2:(List Int)),Ac b4 [v4,(I x2.2.2.1.2)],Ac b2 [(I 0),(.slice none 0 0)],Ac b1 [(.slice none 0 0),(I 0)]]) [Ac b3 [u1,(I x10.2.2.1),(I x10.2.2.2)]] hC49
  refine AJ B0 z z (c_S_l1Below b3 (a1,x10.2.2.1,x10.2.2.2) u1 (AX g5 hC49.keep hF10) 6 hH10 hn10 x23 hr11) ?_
  rintro _ w23 ⟨rfl,hq11⟩
  have hC50:Ctx Fs3.flatten w4 w23 [Ac b3 [u1,(I x23.2.2.1),(I x23.2.2.2)],Ag (α:=(List (Ch Fs3.flatten w4))) v7 x10.1,Ac b5 [(I x3.1.1),v6],Ag v6 (x3.1.2:(List Int)),Ac b4 [v4,(I x2.2.2.1.2)],Ac b2 [(I 0),(.slice none 0 0)],Ac b1 [(.slice none 0 0),(I 0)]]:=hb10 _ _ hq11
  refine Ab<|tk 8 z z (Cz z z)<|BV z z z<|Ab<|ta 9 z z z<|ta 10 z z z<|oe 2 z<|At [v4,(I x2.2.2.1.2)] hC50 4 z z z A8 Az z z<|Ab<|oe 11 z<|Aj (cs':=[v4,(I x2.2.2.1.2)]) (new:=[v4,(I x2.2.2.1.2)]) hC50 6 z z (fac (AT g2)<|fac z<|fa0) z Az z z fun w24 hC51 hKp5=>?_
  try dsimp only [List.set] at hC51
  refine Ab<|oe 12 z<|Aj (cs':=[(I x3.1.1),v6]) (new:=[(I x3.1.1),v6]) hC51 5 z z (fac z<|fac (AT (hC51.ro 3 z))<|fa0) z A9 z z fun w25 hC52 hKp6=>?_
  try dsimp only [List.set] at hC52
  refine Ab<|ta 13 z z z<|ta 14 z z z<|ta 15 z z z<|dn<|Av<|AK<|?_
  obtain rfl:=Aa hF
  exact C7 z (rv_tmp z) (rv_tmp z) (rv_cell_agg (cs':=[v4,(I x2.2.2.1.2)]) hC52 (i:=6) z z z A8 Az z) (rv_cell_agg (cs':=[(I x3.1.1),v6]) hC52 (i:=5) z z z Bl A9 z) (rv_tmp z) (rv_tmp z) (rv_tmp z)<|⟨_,z,_,_,_,_,_,z,(hb3 _ _ hC52).keep.below,(g3.now hC52.keep),(g4.now hC52.keep),(g2.now hC52.keep),(hC52.ro 3 z),(hC52.roCh 1 z)⟩
 refine be hF fun x23 hr11 hF=>have hC49:=hC48.f1;?_
 obtain ⟨Fs10,hH10,hn10,hF10,hO10,hb10⟩:=AS (As:=[Ag (α:=(List (Ch Fs3.flatten w4))) v7 x10.1,Ac b5 [(I x3.1.1),v6],Ag v6 (x3.1.2:(List Int)),Ac b4 [v4,(I x2.2.2.1.2)],Ac b2 [(I 0),(.slice none 0 0)],Ac b1 [(.slice none 0 0),(I 0)]]) [Ac b3 [u1,(I x10.2.2.1),(I x10.2.2.2)]] hC49
 refine AJ B0 z z (c_S_l1Below b3 (a1,x10.2.2.1,x10.2.2.2) u1 (AX g5 hC49.keep hF10) 6 hH10 hn10 x23 hr11) ?_
 rintro _ w23 ⟨rfl,hq11⟩
 have hC50:Ctx Fs3.flatten w4 w23 [Ac b3 [u1,(I x23.2.2.1),(I x23.2.2.2)],Ag (α:=(List (Ch Fs3.flatten w4))) v7 x10.1,Ac b5 [(I x3.1.1),v6],Ag v6 (x3.1.2:(List Int)),Ac b4 [v4,(I x2.2.2.1.2)],Ac b2 [(I 0),(.slice none 0 0)],Ac b1 [(.slice none 0 0),(I 0)]]:=hb10 _ _ hq11
 refine Ab<|tk 8 z z (Cz z z)<|BV z z z<|Ab<|ta 9 z z z<|ta 10 z z z<|wAS (l':=[(2,v1),(3,v2),(4,(ptr b1 0)),(5,(ptr b2 0)),(9,(ptr b3 0)),(10,v1),(11,v2),(12,(ptr b4 0)),(13,(ptr b5 0)),(14,(I x8)),(15,v7),(35,(ptr b3 0)),(36,v1),(37,(.agg #[v4,(I x2.2.2.1.2)])),(38,v7),(39,v1),(40,v2),(43,(I x8)),(44,v7),(45,(ptr b3 0)),(46,(I x23.1)),(47,(I (w64 (x23.1 - 1))))]) ⟨z,z,z,z,z,z,z,z,z,z,z,z,z,z,z,z,z,z,z,z,z,z,Ak⟩<|C6 [⟨2,[],fun vs=>AR (.agg #[v4,(I x2.2.2.1.2)]),[]⟩,⟨3,[],fun vs=>AR (.agg #[(I x3.1.1),v6]),[]⟩] [[],[]] [3] 5 z (by kernel_rfl) (by kernel_rfl) ?_ ⟨?_,?_,Ak⟩
 ·refine Am z ?_ ?_
  ·intro w24 hB10
   refine Aw<|⟨_,z,?_⟩
   exact At [v4,(I x2.2.2.1.2)] (hC50.grow hB10) 4 z z z A8 Az z z<|Ab<|A0 (An _ _) z z ⟨z,z⟩
  refine Am z ?_ ?_
  ·intro w24 hB10
   refine Aw<|⟨_,z,?_⟩
   exact At [(I x3.1.1),v6] (hC50.grow hB10) 2 z z z Bl A9 z z<|Ab<|A0 (An _ _) z z ⟨z,z⟩
  exact Ba
 ·intro g' hg'
  obtain rfl:g'=5:=hg'
  intro w25 hB11
  refine Au z z z ?_
  rintro _ _ ⟨rfl,rfl⟩
  refine Au z z z ?_
  rintro _ _ ⟨rfl,rfl⟩
  refine Bh fun hn11 hb11=>have hC51:=hC50.grow hB11;oe 11 z<|Aj (cs':=[v4,(I x2.2.2.1.2)]) (new:=[v4,(I x2.2.2.1.2)]) hC51 6 z z (fac (AT g2)<|fac z<|fa0) z Az z z fun w26 hC52 hKp5=>?_
  try dsimp only [List.set] at hC52
  refine Ab<|oe 12 z<|Aj (cs':=[(I x3.1.1),v6]) (new:=[(I x3.1.1),v6]) hC52 5 z z (fac z<|fac (AT (hC52.ro 3 z))<|fa0) z A9 z z fun w27 hC53 hKp6=>?_
  try dsimp only [List.set] at hC53
  refine Ab<|ta 13 z z z<|ta 14 z z z<|ta 15 z z z<|dn<|Av<|AK<|?_
  obtain rfl:=Aa hF
  exact C7 z (rv_tmp z) (rv_tmp z) (rv_cell_agg (cs':=[v4,(I x2.2.2.1.2)]) hC53 (i:=6) z z z A8 Az z) (rv_cell_agg (cs':=[(I x3.1.1),v6]) hC53 (i:=5) z z z Bl A9 z) (rv_tmp z) (rv_tmp z) (rv_tmp z)<|⟨_,z,_,_,_,_,_,z,(hb3 _ _ hC53).keep.below,(g3.now hC53.keep),(g4.now hC53.keep),(g2.now hC53.keep),(hC53.ro 3 z),(hC53.roCh 1 z)⟩
 intro g' hg'
 obtain rfl:g'=6:=hg'
 intro w25 hB11
 refine Au z z z ?_
 rintro _ _ ⟨rfl,rfl⟩
 refine Bh fun hn11 hb11=>have hC51:=hC50.grow hB11;Ci (i:=3) (j:=11) (by kernel_rfl) z z ?_ ?_
 ·refine At [(I x3.1.1),v6] hC51 2 z z z Bl A9 z z<|Ab<|oe 11 z<|Aj (cs':=[v4,(I x2.2.2.1.2)]) (new:=[v4,(I x2.2.2.1.2)]) hC51 6 z z (fac (AT g2)<|fac z<|fa0) z Az z z fun w26 hC52 hKp5=>?_
  try dsimp only [List.set] at hC52
  refine Ab<|oe 12 z<|Aj (cs':=[(I x3.1.1),v6]) (new:=[(I x3.1.1),v6]) hC52 5 z z (fac z<|fac (AT (hC52.ro 3 z))<|fa0) z A9 z z fun w27 hC53 hKp6=>?_
  try dsimp only [List.set] at hC53
  refine Ab<|ta 13 z z z<|ta 14 z z z<|ta 15 z z z<|dn<|Av<|AK<|?_
  obtain rfl:=Aa hF
  exact C7 z (rv_tmp z) (rv_tmp z) (rv_cell_agg (cs':=[v4,(I x2.2.2.1.2)]) hC53 (i:=6) z z z A8 Az z) (rv_cell_agg (cs':=[(I x3.1.1),v6]) hC53 (i:=5) z z z Bl A9 z) (rv_tmp z) (rv_tmp z) (rv_tmp z)<|⟨_,z,_,_,_,_,_,z,(hb3 _ _ hC53).keep.below,(g3.now hC53.keep),(g4.now hC53.keep),(g2.now hC53.keep),(hC53.ro 3 z),(hC53.roCh 1 z)⟩
 refine Aj (cs':=[v4,(I x2.2.2.1.2)]) (new:=[v4,(I x2.2.2.1.2)]) hC51 6 z z (fac (AT g2)<|fac z<|fa0) z Az z z (fun w26 hC52 hKp5=>?_)
 try dsimp only [List.set] at hC52
 refine Ab<|oe 3 z<|At [(I x3.1.1),v6] hC52 2 z z z Bl A9 z z<|Ab<|oe 12 z<|Aj (cs':=[(I x3.1.1),v6]) (new:=[(I x3.1.1),v6]) hC52 5 z z (fac z<|fac (AT (hC52.ro 3 z))<|fa0) z A9 z z fun w27 hC53 hKp6=>?_
 try dsimp only [List.set] at hC53
 refine Ab<|ta 13 z z z<|ta 14 z z z<|ta 15 z z z<|dn<|Av<|AK<|?_
 obtain rfl:=Aa hF
 exact C7 z (rv_tmp z) (rv_tmp z) (rv_cell_agg (cs':=[v4,(I x2.2.2.1.2)]) hC53 (i:=6) z z z A8 Az z) (rv_cell_agg (cs':=[(I x3.1.1),v6]) hC53 (i:=5) z z z Bl A9 z) (rv_tmp z) (rv_tmp z) (rv_tmp z)<|⟨_,z,_,_,_,_,_,z,(hb3 _ _ hC53).keep.below,(g3.now hC53.keep),(g4.now hC53.keep),(g2.now hC53.keep),(hC53.ro 3 z),(hC53.roCh 1 z)⟩
theorem c_M_within {w0:World} (a1:Int) (a2:Int) (a3:Int) (rr:Bool) (hF:M.within a1 a2 a3=some rr) :
 Calls Tryz.prog 45 [(I a1),(I a2),(I a3)].toArray w0 fun e w'=>∃v,e=.returned v∧Res w0 rr v w':=by
 refine A3 Tryz.func45 z z ?_
 have hC0:=AH w0
 unfold M.within at hF
 refine Ad<|Af z z<|Ab<|be hF fun r1 hr1 hF=>BL (fun l w=>∃x1:Bool,x1=r1∧l=[(6,(.bool x1))]∧Below w0.heap.size w0 w∧Ctx [] w0 w []) ?_ ?_
 ·refine Bt<|Ae z z<|Ae z z<|Cu z z z<|Ae z z<|B3 (fun hc1=>?_) (fun hc1=>?_)
  ·replace hr1:=AD hr1 hc1
   refine Ai z z<|Ae z z<|Ai z z<|Ae z z<|Ai z z<|CE z z z<|AI z z z<|Af z z<|Ab<|?_
   obtain rfl:=Aa hr1
   exact Ay (l':=[(6,(.bool (decide (a1 ≤ a3))))]) ⟨z,Ak⟩<|⟨(decide (a1 ≤ a3)),z,z,(An _ _),hC0⟩
  replace hr1:=AE hr1 hc1
  refine gs z z z z<|gs z z z z<|gs z z z z<|AY z z z<|Af z z<|Ab<|?_
  obtain rfl:=Aa hr1
  exact Ay (l':=[(6,(.bool false))]) ⟨z,Ak⟩<|⟨false,z,z,(An _ _),hC0⟩
 rintro _ w1 ⟨x1,rfl,rfl,hB1,hC1⟩
 try dsimp only at hF
 refine AK ?_
 obtain rfl:=Aa hF
 exact AB z z<|⟨_,z,Bf hC1 _⟩
theorem c_M_IsSchema_c1 {w0:World} (a1:Int) (rr:Bool) (hF:M.IsSchema_c1 a1=some rr) :
 Calls Tryz.prog 99 [(I a1)].toArray w0 fun e w'=>∃v,e=.returned v∧Res w0 rr v w':=by
 refine A3 Tryz.func99 z z ?_
 have hC0:=AH w0
 unfold M.IsSchema_c1 at hF
 refine Ad<|Af z z<|Ab<|Ad<|Ae z z<|be hF fun x1 hr1 hF=>cb BQ z z (c_M_within a1 1 3 x1 hr1) fun w1 hB1=>have hC1:=hC0.grow hB1;B2 z z<|Af z z<|Ab<|AK<|?_
 obtain rfl:=Aa hF
 exact AB z z<|⟨_,z,Bf hC1 _⟩
theorem c_Slices_IndexFunc_Lint_int_M_IsSchema_c1 {w0:World} (a1:(List Int)) (u1:Value) (g1:RO [] w0 u1 a1) (rr:Int) (hF:Slices.IndexFunc_Lint_int_M_IsSchema_c1 a1=some rr) :
 Calls Tryz.prog 105 [u1,(.func (.func 99) #[] #[])].toArray w0 fun e w'=>∃v,e=.returned v∧Res w0 rr v w':=by
 refine A3 Tryz.func105 z z ?_
 have hC0:=AH w0
 unfold Slices.IndexFunc_Lint_int_M_IsSchema_c1 at hF
 refine Ad<|Af z z<|Ab<|AA<|Ad<|Ae z z<|Bo Ap g1 z z<|Ae z z<|Ab<|be hF fun r1 hr1 hF=>Bx (fun l w=>.inl ()=r1∧l=[]∧Below w0.heap.size w0 w∧Ctx [] w0 w []) ?_ ?_
 ·refine Bb<|wS (l':=[(0,u1),(1,(.func (.func 99) #[] #[])),(7,(I (List.length a1:Int))),(8,(I 0))]) ⟨z,z,z,z,Ak⟩<|BE (fun k l w=>∃x1:Int,l=[(0,u1),(1,(.func (.func 99) #[] #[])),(7,(I (List.length a1:Int))),(8,(I x1))]∧Below w0.heap.size w0 w∧Ctx [] w0 w []∧Slices.IndexFunc_Lint_int_M_IsSchema_c1_l1 a1 k x1=some r1) FUEL ⟨0,z,(An _ _),hC0,hr1⟩<|?_
  clear hr1
  rintro k1 _ w1 ⟨x1,rfl,hB1,hC1,hL1⟩
  cases k1 with
  | zero=>rw [Slices.IndexFunc_Lint_int_M_IsSchema_c1_l1] at hL1; cases hL1
  | succ k1 =>
   rw [Slices.IndexFunc_Lint_int_M_IsSchema_c1_l1] at hL1
   refine Ad<|B8 z z z<|Ab<|AA<|AL z (fun hc1=>?_) (fun hc1=>?_)
   ·replace hL1:=AD hL1 hc1
    refine AM<|Av<|AA<|Bb<|Ad<|Ae z z<|Af z z<|Ab<|Ad<|Ae z z<|Ae z z<|Ae z z<|be hL1 fun x2 hx1 hL1=>AZ Ap ty3 g1 hx1 z z z fun b1 o1 h1=>Be ty3 h1 hC1.keep z z fun v1 h2=>?_
    obtain rfl:=BJ h2
    refine be hL1 fun x3 hr2 hL1=>Cw (cap:=[]) Tryz.call99 z z z (c_M_IsSchema_c1 x2 x3 hr2) fun _ w2 hv1=>?_
    obtain ⟨rfl,hB2⟩:=Cx hv1
    have hC2:=hC1.grow hB2
    refine Ab<|AL z (fun hc2=>?_) (fun hc2=>?_)
    ·replace hL1:=AD hL1 hc2
     refine Ad<|Ae z z<|Af z z<|Ab<|AK<|Bu<|A2<|A2<|Bu<|A2<|A2<|?_
     obtain rfl:=Aa hL1
     dsimp only at hF
     obtain rfl:=Aa hF
     exact AB z z<|⟨_,z,B7 hC2 _⟩
    replace hL1:=AE hL1 hc2
    exact AM<|Bg<|Av<|Bt<|Bw z z z<|Ae z z<|Ab<|Ay (l':=[(0,u1),(1,(.func (.func 99) #[] #[])),(7,(I (List.length a1:Int))),(8,(I (w64 (x1+1))))]) ⟨z,z,z,z,Ak⟩<|⟨k1,AO _,w64 (x1+1),z,((Al hB1).then hB2).below,hC2,hL1⟩
   replace hL1:=AE hL1 hc1
   refine BF (AW (AW (B4 ?_)))
   obtain rfl:=Aa hL1
   exact Ay (l':=[]) Ak<|⟨z,z,(Al hB1).below,hC1⟩
 rintro l2 _ w3 hs2 ⟨rfl,rfl,hB3,hC3⟩
 try dsimp only at hF
 refine Bm hs2 ?_
 clear hs2
 refine Ad<|Af z z<|Ab<|AK<|?_
 obtain rfl:=Aa hF
 exact AB z z<|⟨_,z,B7 hC3 _⟩
theorem c_Slices_ContainsFunc_Lint_int_M_IsSchema_c1 {w0:World} (a1:(List Int)) (u1:Value) (g1:RO [] w0 u1 a1) (rr:Bool) (hF:Slices.ContainsFunc_Lint_int_M_IsSchema_c1 a1=some rr) :
 Calls Tryz.prog 93 [u1,(.func (.func 99) #[] #[])].toArray w0 fun e w'=>∃v,e=.returned v∧Res w0 rr v w':=by
 refine A3 Tryz.func93 z z ?_
 have hC0:=AH w0
 unfold Slices.ContainsFunc_Lint_int_M_IsSchema_c1 at hF
 refine Ad<|Af z z<|Ab<|Ad<|Ae z z<|Ae z z<|be hF fun x1 hr1 hF=>ci Tryz.call105 z z (c_Slices_IndexFunc_Lint_int_M_IsSchema_c1 a1 u1 (g1.now hC0.keep) x1 hr1) fun w1 hB1=>have hC1:=hC0.grow hB1;Cu z z z<|Af z z<|Ab<|AK<|?_
 obtain rfl:=Aa hF
 exact AB z z<|⟨_,z,Bf hC1 _⟩
theorem c_M_IsSchema {w0:World} (a1:(List Int)) (u1:Value) (g1:RO [] w0 u1 a1) (rr:Bool) (hF:M.IsSchema a1=some rr) :
 Calls Tryz.prog 80 [u1].toArray w0 fun e w'=>∃v,e=.returned v∧Res w0 rr v w':=by
 refine A3 Tryz.func80 z z ?_
 have hC0:=AH w0
 unfold M.IsSchema at hF
 refine Ad<|Af z z<|Ab<|be hF fun r1 hr1 hF=>BL (fun l w=>∃x1:Bool,x1=r1∧l=[(2,(.bool x1))]∧Below w0.heap.size w0 w∧Ctx [] w0 w []) ?_ ?_
 ·refine Bt<|Ae z z<|Bo Ap g1 z z<|be hr1 fun x2 hr2 hr1=>cb BQ z z (c_M_within (List.length a1:Int) 1 3 x2 hr2) fun w2 hB2=>have hC2:=hC0.grow hB2;Ae z z<|B3 (fun hc1=>?_) (fun hc1=>?_)
  ·replace hr1:=AD hr1 hc1
   refine Ai z z<|Ae z z<|be hr1 fun x3 hr3 hr1=>Ai z z<|cb Tryz.call93 z z (c_Slices_ContainsFunc_Lint_int_M_IsSchema_c1 a1 u1 (g1.now hC2.keep) x3 hr3) fun w3 hB3=>have hC3:=hC2.grow hB3;Ai z z<|B2 z z<|AI z z z<|Af z z<|Ab<|?_
   obtain rfl:=Aa hr1
   exact Ay (l':=[(2,(.bool (!x3)))]) ⟨z,Ak⟩<|⟨(!x3),z,z,((Al hB2).then hB3).below,hC3⟩
  replace hr1:=AE hr1 hc1
  refine gs z z z z<|gs z z z z<|gs z z z z<|AY z z z<|Af z z<|Ab<|?_
  obtain rfl:=Aa hr1
  exact Ay (l':=[(2,(.bool false))]) ⟨z,Ak⟩<|⟨false,z,z,(Al hB2).below,hC2⟩
 rintro _ w1 ⟨x1,rfl,rfl,hB1,hC1⟩
 try dsimp only at hF
 refine AK ?_
 obtain rfl:=Aa hF
 exact AB z z<|⟨_,z,Bf hC1 _⟩
theorem c_M_hasRel {w0:World} (a1:(List Int)) (u1:Value) (g1:RO [] w0 u1 a1) (a2:Int) (rr:Bool) (hF:M.hasRel a1 a2=some rr) :
 Calls Tryz.prog 70 [u1,(I a2)].toArray w0 fun e w'=>∃v,e=.returned v∧Res w0 rr v w':=by
 refine A3 Tryz.func70 z z ?_
 have hC0:=AH w0
 unfold M.hasRel at hF
 refine Ad<|Af z z<|Ab<|be hF fun r1 hr1 hF=>BL (fun l w=>∃x1:Bool,x1=r1∧l=[(4,(.bool x1))]∧Below w0.heap.size w0 w∧Ctx [] w0 w []) ?_ ?_
 ·refine Bt<|Ae z z<|be hr1 fun x2 hr2 hr1=>cb Tryz.call80 z z (c_M_IsSchema a1 u1 (g1.now hC0.keep) x2 hr2) fun w2 hB2=>have hC2:=hC0.grow hB2;Ae z z<|B3 (fun hc1=>?_) (fun hc1=>?_)
  ·replace hr1:=AD hr1 hc1
   refine Ai z z<|Ae z z<|Ai z z<|Ae z z<|Ai z z<|Bo Ap g1 z z<|Ai z z<|BV z z z<|be hr1 fun x3 hr3 hr1=>Ai z z<|cb BQ z z (c_M_within a2 0 (w64 ((List.length a1:Int) - 1)) x3 hr3) fun w3 hB3=>have hC3:=hC2.grow hB3;AI z z z<|Af z z<|Ab<|?_
   obtain rfl:=Aa hr1
   exact Ay (l':=[(4,(.bool x3))]) ⟨z,Ak⟩<|⟨x3,z,z,((Al hB2).then hB3).below,hC3⟩
  replace hr1:=AE hr1 hc1
  refine gs z z z z<|gs z z z z<|gs z z z z<|gs z z z z<|gs z z z z<|AY z z z<|Af z z<|Ab<|?_
  obtain rfl:=Aa hr1
  exact Ay (l':=[(4,(.bool false))]) ⟨z,Ak⟩<|⟨false,z,z,(Al hB2).below,hC2⟩
 rintro _ w1 ⟨x1,rfl,rfl,hB1,hC1⟩
 try dsimp only at hF
 refine AK ?_
 obtain rfl:=Aa hF
 exact AB z z<|⟨_,z,Bf hC1 _⟩
theorem c_M_isValue {w0:World} (a1:Int) (rr:Bool) (hF:M.isValue a1=some rr) :
 Calls Tryz.prog 95 [(I a1)].toArray w0 fun e w'=>∃v,e=.returned v∧Res w0 rr v w':=by
 refine A3 Tryz.func95 z z ?_
 have hC0:=AH w0
 unfold M.isValue at hF
 refine Ad<|Af z z<|Ab<|Ad<|Ae z z<|be hF fun x1 hr1 hF=>cb BQ z z (c_M_within a1 0 9 x1 hr1) fun w1 hB1=>have hC1:=hC0.grow hB1;Af z z<|Ab<|AK<|?_
 obtain rfl:=Aa hF
 exact AB z z<|⟨_,z,Bf hC1 _⟩
theorem c_M_areValues_c1 {w0:World} (a1:Int) (rr:Bool) (hF:M.areValues_c1 a1=some rr) :
 Calls Tryz.prog 94 [(I a1)].toArray w0 fun e w'=>∃v,e=.returned v∧Res w0 rr v w':=by
 refine A3 Tryz.func94 z z ?_
 have hC0:=AH w0
 unfold M.areValues_c1 at hF
 refine Ad<|Af z z<|Ab<|Ad<|Ae z z<|be hF fun x1 hr1 hF=>cb Tryz.call95 z z (c_M_isValue a1 x1 hr1) fun w1 hB1=>have hC1:=hC0.grow hB1;B2 z z<|Af z z<|Ab<|AK<|?_
 obtain rfl:=Aa hF
 exact AB z z<|⟨_,z,Bf hC1 _⟩
theorem c_Slices_IndexFunc_Lint_int_M_areValues_c1 {w0:World} (a1:(List Int)) (u1:Value) (g1:RO [] w0 u1 a1) (rr:Int) (hF:Slices.IndexFunc_Lint_int_M_areValues_c1 a1=some rr) :
 Calls Tryz.prog 105 [u1,(.func (.func 94) #[] #[])].toArray w0 fun e w'=>∃v,e=.returned v∧Res w0 rr v w':=by
 refine A3 Tryz.func105 z z ?_
 have hC0:=AH w0
 unfold Slices.IndexFunc_Lint_int_M_areValues_c1 at hF
 refine Ad<|Af z z<|Ab<|AA<|Ad<|Ae z z<|Bo Ap g1 z z<|Ae z z<|Ab<|be hF fun r1 hr1 hF=>Bx (fun l w=>.inl ()=r1∧l=[]∧Below w0.heap.size w0 w∧Ctx [] w0 w []) ?_ ?_
 ·refine Bb<|wS (l':=[(0,u1),(1,(.func (.func 94) #[] #[])),(7,(I (List.length a1:Int))),(8,(I 0))]) ⟨z,z,z,z,Ak⟩<|BE (fun k l w=>∃x1:Int,l=[(0,u1),(1,(.func (.func 94) #[] #[])),(7,(I (List.length a1:Int))),(8,(I x1))]∧Below w0.heap.size w0 w∧Ctx [] w0 w []∧Slices.IndexFunc_Lint_int_M_areValues_c1_l1 a1 k x1=some r1) FUEL ⟨0,z,(An _ _),hC0,hr1⟩<|?_
  clear hr1
  rintro k1 _ w1 ⟨x1,rfl,hB1,hC1,hL1⟩
  cases k1 with
  | zero=>rw [Slices.IndexFunc_Lint_int_M_areValues_c1_l1] at hL1; cases hL1
  | succ k1 =>
   rw [Slices.IndexFunc_Lint_int_M_areValues_c1_l1] at hL1
   refine Ad<|B8 z z z<|Ab<|AA<|AL z (fun hc1=>?_) (fun hc1=>?_)
   ·replace hL1:=AD hL1 hc1
    refine AM<|Av<|AA<|Bb<|Ad<|Ae z z<|Af z z<|Ab<|Ad<|Ae z z<|Ae z z<|Ae z z<|be hL1 fun x2 hx1 hL1=>AZ Ap ty3 g1 hx1 z z z fun b1 o1 h1=>Be ty3 h1 hC1.keep z z fun v1 h2=>?_
    obtain rfl:=BJ h2
    refine be hL1 fun x3 hr2 hL1=>Cw (cap:=[]) Tryz.call94 z z z (c_M_areValues_c1 x2 x3 hr2) fun _ w2 hv1=>?_
    obtain ⟨rfl,hB2⟩:=Cx hv1
    have hC2:=hC1.grow hB2
    refine Ab<|AL z (fun hc2=>?_) (fun hc2=>?_)
    ·replace hL1:=AD hL1 hc2
     refine Ad<|Ae z z<|Af z z<|Ab<|AK<|Bu<|A2<|A2<|Bu<|A2<|A2<|?_
     obtain rfl:=Aa hL1
     dsimp only at hF
     obtain rfl:=Aa hF
     exact AB z z<|⟨_,z,B7 hC2 _⟩
    replace hL1:=AE hL1 hc2
    exact AM<|Bg<|Av<|Bt<|Bw z z z<|Ae z z<|Ab<|Ay (l':=[(0,u1),(1,(.func (.func 94) #[] #[])),(7,(I (List.length a1:Int))),(8,(I (w64 (x1+1))))]) ⟨z,z,z,z,Ak⟩<|⟨k1,AO _,w64 (x1+1),z,((Al hB1).then hB2).below,hC2,hL1⟩
   replace hL1:=AE hL1 hc1
   refine BF (AW (AW (B4 ?_)))
   obtain rfl:=Aa hL1
   exact Ay (l':=[]) Ak<|⟨z,z,(Al hB1).below,hC1⟩
 rintro l2 _ w3 hs2 ⟨rfl,rfl,hB3,hC3⟩
 try dsimp only at hF
 refine Bm hs2 ?_
 clear hs2
 refine Ad<|Af z z<|Ab<|AK<|?_
 obtain rfl:=Aa hF
 exact AB z z<|⟨_,z,B7 hC3 _⟩
theorem c_Slices_ContainsFunc_Lint_int_M_areValues_c1 {w0:World} (a1:(List Int)) (u1:Value) (g1:RO [] w0 u1 a1) (rr:Bool) (hF:Slices.ContainsFunc_Lint_int_M_areValues_c1 a1=some rr) :
 Calls Tryz.prog 93 [u1,(.func (.func 94) #[] #[])].toArray w0 fun e w'=>∃v,e=.returned v∧Res w0 rr v w':=by
 refine A3 Tryz.func93 z z ?_
 have hC0:=AH w0
 unfold Slices.ContainsFunc_Lint_int_M_areValues_c1 at hF
 refine Ad<|Af z z<|Ab<|Ad<|Ae z z<|Ae z z<|be hF fun x1 hr1 hF=>ci Tryz.call105 z z (c_Slices_IndexFunc_Lint_int_M_areValues_c1 a1 u1 (g1.now hC0.keep) x1 hr1) fun w1 hB1=>have hC1:=hC0.grow hB1;Cu z z z<|Af z z<|Ab<|AK<|?_
 obtain rfl:=Aa hF
 exact AB z z<|⟨_,z,Bf hC1 _⟩
theorem c_M_areValues {w0:World} (a1:(List Int)) (u1:Value) (g1:RO [] w0 u1 a1) (rr:Bool) (hF:M.areValues a1=some rr) :
 Calls Tryz.prog 71 [u1].toArray w0 fun e w'=>∃v,e=.returned v∧Res w0 rr v w':=by
 refine A3 Tryz.func71 z z ?_
 have hC0:=AH w0
 unfold M.areValues at hF
 refine Ad<|Af z z<|Ab<|Ad<|Ae z z<|be hF fun x1 hr1 hF=>cb Tryz.call93 z z (c_Slices_ContainsFunc_Lint_int_M_areValues_c1 a1 u1 (g1.now hC0.keep) x1 hr1) fun w1 hB1=>have hC1:=hC0.grow hB1;B2 z z<|Af z z<|Ab<|AK<|?_
 obtain rfl:=Aa hF
 exact AB z z<|⟨_,z,Bf hC1 _⟩
theorem c_M_IsFact {w0:World} (a1:(List Int)) (u1:Value) (g1:RO [] w0 u1 a1) (a2:(Int × (List Int))) (u2:Value) (g2:RO [] w0 u2 a2.2) (rr:Bool) (hF:M.IsFact a1 a2=some rr) :
 Calls Tryz.prog 34 [u1,(.agg #[(I a2.1),u2])].toArray w0 fun e w'=>∃v,e=.returned v∧Res w0 rr v w':=by
 refine A3 Tryz.func34 z z ?_
 have hC0:=AH w0
 unfold M.IsFact at hF
 refine Ad<|Bz (cs:=[(I a2.1),u2]) hC0 z z z fun b1 w1 hC1 hB1 hN1=>Af z z<|Ab<|be hF fun r1 hr1 hF=>BL (fun l w=>∃x1:Bool,x1=r1∧l=[(4,(.bool x1))]∧Below w1.heap.size w1 w∧Ctx [] w0 w []) ?_ ?_
 ·refine W_drawn 21 z hmix fun w3 hB3=>have hC3:=hC1.grow hB3;tm 0 z z z<|tf 1 A1 Ax z z z z z<|oe 2 z<|Aq hC3 0 z z A6 z z<|Ab<|be hr1 fun x2 hr2 hr1=>oe 3 z<|cb Tryz.call70 z z (c_M_hasRel a1 u1 (g1.now hC3.keep) a2.1 x2 hr2) fun w4 hB4=>have hC4:=hC3.grow hB4;Ab<|tm 4 z z z<|BO (fun hc1=>?_) (fun hc1=>?_)
  ·replace hr1:=AD hr1 hc1
   refine tg 5 z z z z (BB A1 z z (fun w=>⟨_,A4 w⟩) z)<|Ai z z<|fd A1 A4 z z z z<|Ab<|tn 8 z z z z z<|tg 9 z z z z (BB A1 z z (fun w=>⟨_,Ax w⟩) z)<|Ai z z<|fd A1 Ax z z z z<|Ab<|be hr1 fun x3 hx1 hr1=>wAS (l':=[(0,u1),(1,(.agg #[(I a2.1),u2])),(3,(ptr b1 0)),(4,(.bool false)),(5,u1),(6,(ptr b1 0)),(7,(I a2.1)),(8,(.bool x2)),(9,(.bool true)),(10,(ptr b1 1)),(13,u1),(14,(ptr b1 0))]) ⟨z,z,z,z,z,z,z,z,z,z,z,z,Ak⟩<|Bq [⟨6,[],fun vs=>AR u2,[]⟩,⟨7,[],fun vs=>AR (I (List.length a2.2:Int)),[]⟩,⟨10,[],fun vs=>AR (I a2.1),[]⟩,⟨11,[],fun vs=>Cc [] w0 x3,[]⟩,⟨12,[],fun vs=>AR (I x3),[]⟩] [[],[6],[],[10],[11]] 8 z (by kernel_rfl) (by kernel_rfl) z ?_ ?_
   ·refine Am z ?_ ?_
    ·intro w5 hB5
     refine Aw<|⟨_,z,?_⟩
     exact Ai z z<|Aq (hC4.grow hB5) 0 z z AU z z<|Ab<|A0 (An _ _) z z ⟨z,z⟩
    refine Am z ?_ ?_
    ·intro w5 hB5
     refine A7 z z z ?_
     rintro _ _ ⟨rfl,rfl⟩ _
     refine Aw<|⟨_,z,?_⟩
     exact Ai z z<|Bo Ap g2 z z<|Ab<|A0 (An _ _) z z ⟨z,z⟩
    refine Am z ?_ ?_
    ·intro w5 hB5
     refine Aw<|⟨_,z,?_⟩
     exact Ai z z<|Aq (hC4.grow hB5) 0 z z A6 z z<|Ab<|A0 (An _ _) z z ⟨z,z⟩
    refine Am z ?_ ?_
    ·intro w5 hB5
     refine A7 z z z ?_
     rintro _ _ ⟨rfl,rfl⟩ _
     refine Aw<|⟨_,z,?_⟩
     exact Ai z z<|AZ Ap ty3 g1 hx1 z z z fun b2 o1 h1=>Ab<|A0 (An _ _) z z ⟨z,_,_,z,h1⟩
    refine Am z ?_ ?_
    ·intro w5 hB5
     refine A7 z z z ?_
     rintro _ _ ⟨rfl,b2,o1,rfl,h1⟩ _
     refine Aw<|⟨_,z,?_⟩
     refine Ai z z<|Be ty3 h1 (hC4.keep.then hB5) z z fun v1 h2=>?_
     obtain rfl:=BJ h2
     exact Ab<|A0 (An _ _) z z ⟨z,z⟩
    exact Ba
   intro w6 hB6
   refine Au z z z ?_
   rintro _ _ ⟨rfl,rfl⟩
   refine Au z z z ?_
   rintro _ _ ⟨rfl,rfl⟩
   refine Au z z z ?_
   rintro _ _ ⟨rfl,rfl⟩
   refine Au z z z ?_
   rintro _ _ ⟨rfl,b2,o1,rfl,h1⟩
   refine Au z z z ?_
   rintro _ _ ⟨rfl,rfl⟩
   refine Bh fun hn1 hb1=>have hC5:=hC4.grow hB6;tg 13 z z z z (fl_eql z z)<|Ai z z<|BP z z z<|Ab<|tp 14 z z z z<|tm 15 z z z<|BO (fun hc2=>?_) (fun hc2=>?_)
   ·replace hr1:=AD hr1 hc2
    refine tg 16 z z z z (BB A1 z z (fun w=>⟨_,A4 w⟩) z)<|Ai z z<|fd A1 A4 z z z z<|Ab<|oe 17 z<|Ai z z<|Aq hC5 0 z z AU z z<|Ab<|be hr1 fun x4 hr3 hr1=>oe 18 z<|Ai z z<|cb Tryz.call71 z z (c_M_areValues a2.2 u2 (g2.now hC5.keep) x4 hr3) fun w7 hB7=>have hC6:=hC5.grow hB7;Ab<|tp 19 z z z z<|ta 20 z z z<|dn<|?_
    obtain rfl:=Aa hr1
    have hC7:=hC6.h0
    exact Ay (l':=[(4,(.bool x4))]) ⟨z,Ak⟩<|⟨x4,z,z,((((Al hB3).then hB4).then hB6).then hB7).below,hC7⟩
   replace hr1:=AE hr1 hc2
   refine sk 16 z z z z z<|sk 17 z z z z z<|sk 18 z z z z z<|tq 19 z z z z<|ta 20 z z z<|dn<|?_
   obtain rfl:=Aa hr1
   have hC8:=hC5.h0
   exact Ay (l':=[(4,(.bool false))]) ⟨z,Ak⟩<|⟨false,z,z,(((Al hB3).then hB4).then hB6).below,hC8⟩
  replace hr1:=AE hr1 hc1
  refine sk 5 z z z z z<|sk 6 z z z z z<|sk 7 z z z z z<|sk 8 z z z z z<|sk 9 z z z z z<|sk 10 z z z z z<|sk 11 z z z z z<|sk 12 z z z z z<|sk 13 z z z z z<|tq 14 z z z z<|tm 15 z z z<|sk 16 z z z z z<|sk 17 z z z z z<|sk 18 z z z z z<|tq 19 z z z z<|ta 20 z z z<|dn<|?_
  obtain rfl:=Aa hr1
  have hC9:=hC4.h0
  exact Ay (l':=[(4,(.bool false))]) ⟨z,Ak⟩<|⟨false,z,z,((Al hB3).then hB4).below,hC9⟩
 rintro _ w2 ⟨x1,rfl,rfl,hB2,hC2⟩
 try dsimp only at hF
 refine AK ?_
 obtain rfl:=Aa hF
 exact AB z z<|⟨_,z,Bf hC2 _⟩
theorem c_Cmp_Or_int {w0:World} (a1:(List Int)) (u1:Value) (g1:RO [] w0 u1 a1) (rr:Int) (hF:Cmp.Or_int a1=some rr) :
 Calls Tryz.prog 76 [u1].toArray w0 fun e w'=>∃v,e=.returned v∧Res w0 rr v w':=by
 refine A3 Tryz.func76 z z ?_
 have hC0:=AH w0
 unfold Cmp.Or_int at hF
 refine Ad<|Af z z<|Ab<|Ad<|Af z z<|Ab<|AA<|Ad<|Ae z z<|Bo Ap g1 z z<|Ae z z<|Ab<|be hF fun r1 hr1 hF=>Bx (fun l w=>.inl ()=r1∧l=[(3,(I 0))]∧Below w0.heap.size w0 w∧Ctx [] w0 w []) ?_ ?_
 ·refine Bb<|wS (l':=[(3,(I 0)),(6,u1),(7,(I (List.length a1:Int))),(8,(I 0))]) ⟨z,z,z,z,Ak⟩<|BE (fun k l w=>∃x1:Int,l=[(3,(I 0)),(6,u1),(7,(I (List.length a1:Int))),(8,(I x1))]∧Below w0.heap.size w0 w∧Ctx [] w0 w []∧Cmp.Or_int_l1 a1 k x1=some r1) FUEL ⟨0,z,(An _ _),hC0,hr1⟩<|?_
  clear hr1
  rintro k1 _ w1 ⟨x1,rfl,hB1,hC1,hL1⟩
  cases k1 with
  | zero=>rw [Cmp.Or_int_l1] at hL1; cases hL1
  | succ k1 =>
   rw [Cmp.Or_int_l1] at hL1
   refine Ad<|B8 z z z<|Ab<|AA<|AL z (fun hc1=>?_) (fun hc1=>?_)
   ·replace hL1:=AD hL1 hc1
    refine AM<|Av<|AA<|Bb<|Ad<|be hL1 fun x2 hx1 hL1=>AZ Ap ty3 g1 hx1 z z z fun b1 o1 h1=>Be ty3 h1 hC1.keep z z fun v1 h2=>?_
    obtain rfl:=BJ h2
    refine Af z z<|Ab<|Ad<|Ae z z<|Ae z z<|Cl z z z<|Ab<|AL z (fun hc2=>?_) (fun hc2=>?_)
    ·replace hL1:=AD hL1 hc2
     refine Ad<|Ae z z<|Af z z<|Ab<|AK<|Bu<|A2<|A2<|Bu<|A2<|A2<|?_
     obtain rfl:=Aa hL1
     dsimp only at hF
     obtain rfl:=Aa hF
     exact AB z z<|⟨_,z,B7 hC1 _⟩
    replace hL1:=AE hL1 hc2
    exact AM<|Bg<|Av<|Bt<|Bw z z z<|Ae z z<|Ab<|Ay (l':=[(3,(I 0)),(6,u1),(7,(I (List.length a1:Int))),(8,(I (w64 (x1+1))))]) ⟨z,z,z,z,Ak⟩<|⟨k1,AO _,w64 (x1+1),z,(Al hB1).below,hC1,hL1⟩
   replace hL1:=AE hL1 hc1
   refine BF (AW (AW (B4 ?_)))
   obtain rfl:=Aa hL1
   exact Ay (l':=[(3,(I 0))]) ⟨z,Ak⟩<|⟨z,z,(Al hB1).below,hC1⟩
 rintro l2 _ w2 hs2 ⟨rfl,rfl,hB2,hC2⟩
 try dsimp only at hF
 refine Bm hs2 ?_
 clear hs2
 refine Ad<|Ae z z<|Af z z<|Ab<|AK<|?_
 obtain rfl:=Aa hF
 exact AB z z<|⟨_,z,B7 hC2 _⟩
theorem c_Cmp_isNaN_int {w0:World} (a1:Int) (rr:Bool) (hF:Cmp.isNaN_int a1=some rr) :
 Calls Tryz.prog 98 [(I a1)].toArray w0 fun e w'=>∃v,e=.returned v∧Res w0 rr v w':=by
 refine A3 Tryz.func98 z z ?_
 have hC0:=AH w0
 unfold Cmp.isNaN_int at hF
 refine Ad<|Af z z<|Ab<|Ad<|Ae z z<|Ae z z<|Cl z z z<|Af z z<|Ab<|AK<|?_
 obtain rfl:=Aa hF
 exact AB z z<|⟨_,z,Bf hC0 _⟩
theorem c_Cmp_Compare_int {w0:World} (a1:Int) (a2:Int) (rr:Int) (hF:Cmp.Compare_int a1 a2=some rr) :
 Calls Tryz.prog 77 [(I a1),(I a2)].toArray w0 fun e w'=>∃v,e=.returned v∧Res w0 rr v w':=by
 refine A3 Tryz.func77 z z ?_
 have hC0:=AH w0
 unfold Cmp.Compare_int at hF
 refine Ad<|Af z z<|Ab<|Ad<|Ae z z<|be hF fun x1 hr1 hF=>cb Tryz.call98 z z (c_Cmp_isNaN_int a1 x1 hr1) fun w1 hB1=>have hC1:=hC0.grow hB1;Af z z<|Ab<|Ad<|Ae z z<|be hF fun x2 hr2 hF=>cb Tryz.call98 z z (c_Cmp_isNaN_int a2 x2 hr2) fun w2 hB2=>have hC2:=hC1.grow hB2;Af z z<|Ab<|AA<|Ad<|Ae z z<|Ab<|AL z (fun hc1=>?_) (fun hc1=>?_)
 ·replace hF:=AD hF hc1
  refine AA<|Ad<|Ae z z<|Ab<|AL z (fun hc2=>?_) (fun hc2=>?_)
  ·replace hF:=AD hF hc2
   refine Ad<|Af z z<|Ab<|AK<|A2<|A2<|?_
   obtain rfl:=Aa hF
   exact AB z z<|⟨_,z,B7 hC2 _⟩
  replace hF:=AE hF hc2
  refine AM<|Av<|Ad<|Af z z<|Ab<|AK<|A2<|?_
  obtain rfl:=Aa hF
  exact AB z z<|⟨_,z,B7 hC2 _⟩
 replace hF:=AE hF hc1
 refine AM<|Av<|AA<|Ad<|Ae z z<|Ab<|AL z (fun hc3=>?_) (fun hc3=>?_)
 ·replace hF:=AD hF hc3
  refine Ad<|Af z z<|Ab<|AK<|A2<|?_
  obtain rfl:=Aa hF
  exact AB z z<|⟨_,z,B7 hC2 _⟩
 replace hF:=AE hF hc3
 refine AM<|Av<|AA<|Ad<|Ae z z<|Ae z z<|B8 z z z<|Ab<|AL z (fun hc4=>?_) (fun hc4=>?_)
 ·replace hF:=AD hF hc4
  refine Ad<|Af z z<|Ab<|AK<|A2<|?_
  obtain rfl:=Aa hF
  exact AB z z<|⟨_,z,B7 hC2 _⟩
 replace hF:=AE hF hc4
 refine AM<|Av<|AA<|Ad<|Ae z z<|Ae z z<|Cr z z z<|Ab<|AL z (fun hc5=>?_) (fun hc5=>?_)
 ·replace hF:=AD hF hc5
  refine Ad<|Af z z<|Ab<|AK<|A2<|?_
  obtain rfl:=Aa hF
  exact AB z z<|⟨_,z,B7 hC2 _⟩
 replace hF:=AE hF hc5
 refine AM<|Av<|Ad<|Af z z<|Ab<|AK<|?_
 obtain rfl:=Aa hF
 exact AB z z<|⟨_,z,B7 hC2 _⟩
theorem c_Slices_Compare_Lint_int {w0:World} (a1:(List Int)) (u1:Value) (g1:RO [] w0 u1 a1) (a2:(List Int)) (u2:Value) (g2:RO [] w0 u2 a2) (rr:Int) (hF:Slices.Compare_Lint_int a1 a2=some rr) :
 Calls Tryz.prog 78 [u1,u2].toArray w0 fun e w'=>∃v,e=.returned v∧Res w0 rr v w':=by
 refine A3 Tryz.func78 z z ?_
 have hC0:=AH w0
 unfold Slices.Compare_Lint_int at hF
 refine Ad<|Af z z<|Ab<|AA<|Ad<|Ae z z<|Bo Ap g1 z z<|Ae z z<|Ab<|be hF fun r1 hr1 hF=>Bx (fun l w=>.inl ()=r1∧l=[(0,u1),(1,u2)]∧Below w0.heap.size w0 w∧Ctx [] w0 w []) ?_ ?_
 ·refine Bb<|wS (l':=[(0,u1),(1,u2),(9,u1),(10,(I (List.length a1:Int))),(11,(I 0))]) ⟨z,z,z,z,z,Ak⟩<|BE (fun k l w=>∃x1:Int,l=[(0,u1),(1,u2),(9,u1),(10,(I (List.length a1:Int))),(11,(I x1))]∧Below w0.heap.size w0 w∧Ctx [] w0 w []∧Slices.Compare_Lint_int_l1 a1 a2 k x1=some r1) FUEL ⟨0,z,(An _ _),hC0,hr1⟩<|?_
  clear hr1
  rintro k1 _ w1 ⟨x1,rfl,hB1,hC1,hL1⟩
  cases k1 with
  | zero=>rw [Slices.Compare_Lint_int_l1] at hL1; cases hL1
  | succ k1 =>
   rw [Slices.Compare_Lint_int_l1] at hL1
   refine Ad<|B8 z z z<|Ab<|AA<|AL z (fun hc1=>?_) (fun hc1=>?_)
   ·replace hL1:=AD hL1 hc1
    refine AM<|Av<|AA<|Bb<|Ad<|Ae z z<|be hL1 fun x2 hx1 hL1=>AZ Ap ty3 g1 hx1 z z z fun b1 o1 h1=>Be ty3 h1 hC1.keep z z fun v1 h2=>?_
    obtain rfl:=BJ h2
    refine Af z z<|Af z z<|Ab<|AA<|Ad<|Ae z z<|Ae z z<|Bo Ap g2 z z<|Cu z z z<|Ab<|AL z (fun hc2=>?_) (fun hc2=>?_)
    ·replace hL1:=AD hL1 hc2
     refine Ad<|Af z z<|Ab<|AK<|A2<|Bu<|A2<|A2<|Bu<|A2<|A2<|?_
     obtain rfl:=Aa hL1
     dsimp only at hF
     obtain rfl:=Aa hF
     exact AB z z<|⟨_,z,B7 hC1 _⟩
    replace hL1:=AE hL1 hc2
    refine AM<|Av<|Ad<|Ae z z<|Ae z z<|be hL1 fun x3 hx2 hL1=>AZ Ap ty3 g2 hx2 z z z fun b2 o2 h3=>Be ty3 h3 hC1.keep z z fun v2 h4=>?_
    obtain rfl:=BJ h4
    refine Af z z<|Ab<|Ad<|Ae z z<|Ae z z<|be hL1 fun x4 hr2 hL1=>ci Tryz.call77 z z (c_Cmp_Compare_int x2 x3 x4 hr2) fun w2 hB2=>have hC2:=hC1.grow hB2;Af z z<|Ab<|Ad<|Ae z z<|Cl z z z<|Ab<|AL z (fun hc3=>?_) (fun hc3=>?_)
    ·replace hL1:=AD hL1 hc3
     refine Ad<|Ae z z<|Af z z<|Ab<|AK<|Bu<|A2<|A2<|Bu<|A2<|A2<|?_
     obtain rfl:=Aa hL1
     dsimp only at hF
     obtain rfl:=Aa hF
     exact AB z z<|⟨_,z,B7 hC2 _⟩
    replace hL1:=AE hL1 hc3
    exact AM<|Bg<|Av<|Bt<|Bw z z z<|Ae z z<|Ab<|Ay (l':=[(0,u1),(1,u2),(9,u1),(10,(I (List.length a1:Int))),(11,(I (w64 (x1+1))))]) ⟨z,z,z,z,z,Ak⟩<|⟨k1,AO _,w64 (x1+1),z,((Al hB1).then hB2).below,hC2,hL1⟩
   replace hL1:=AE hL1 hc1
   refine BF (AW (AW (B4 ?_)))
   obtain rfl:=Aa hL1
   exact Ay (l':=[(0,u1),(1,u2)]) ⟨z,z,Ak⟩<|⟨z,z,(Al hB1).below,hC1⟩
 rintro l2 _ w3 hs2 ⟨rfl,rfl,hB3,hC3⟩
 try dsimp only at hF
 refine Bm hs2 ?_
 clear hs2
 refine AA<|Ad<|Ae z z<|Bo Ap g1 z z<|Ae z z<|Bo Ap g2 z z<|B8 z z z<|Ab<|AL z (fun hc4=>?_) (fun hc4=>?_)
 ·replace hF:=AD hF hc4
  refine Ad<|Af z z<|Ab<|AK<|A2<|?_
  obtain rfl:=Aa hF
  exact AB z z<|⟨_,z,B7 hC3 _⟩
 replace hF:=AE hF hc4
 refine AM<|Av<|Ad<|Af z z<|Ab<|AK<|?_
 obtain rfl:=Aa hF
 exact AB z z<|⟨_,z,B7 hC3 _⟩
theorem c_M_CompareFacts {w0:World} (a1:(Int × (List Int))) (u1:Value) (g1:RO [] w0 u1 a1.2) (a2:(Int × (List Int))) (u2:Value) (g2:RO [] w0 u2 a2.2) (rr:Int) (hF:M.CompareFacts a1 a2=some rr) :
 Calls Tryz.prog 38 [(.agg #[(I a1.1),u1]),(.agg #[(I a2.1),u2])].toArray w0 fun e w'=>∃v,e=.returned v∧Res w0 rr v w':=by
 refine A3 Tryz.func38 z z ?_
 have hC0:=AH w0
 unfold M.CompareFacts at hF
 refine Ad<|Bz (cs:=[(I a1.1),u1]) hC0 z z z fun b1 w1 hC1 hB1 hN1=>Bz (cs:=[(I a2.1),u2]) hC1 z z z fun b2 w2 hC2 hB2 hN2=>Af z z<|Ab<|AA<|W_drawn 13 z hmix fun w3 hB3=>have hC3:=hC2.grow hB3;tf 0 A1 Ax z z z z z<|tf 2 A1 Ax z z z z z<|tf 5 A1 A4 z z z z z<|tf 7 A1 A4 z z z z z<|be hF fun x1 hr1 hF=>wAS (l':=[(0,(.agg #[(I a1.1),u1])),(1,(.agg #[(I a2.1),u2])),(2,(ptr b1 0)),(3,(ptr b2 0)),(4,(I 0)),(5,(ptr b1 0)),(7,(ptr b2 0)),(10,(ptr b1 1)),(12,(ptr b2 1))]) ⟨z,z,z,z,z,z,z,z,z,Ak⟩<|Bq [⟨1,[],fun vs=>AR (I a1.1),[]⟩,⟨3,[],fun vs=>AR (I a2.1),[]⟩,⟨4,[],fun vs=>AR (I x1),[]⟩,⟨6,[],fun vs=>AR u1,[]⟩,⟨8,[],fun vs=>AR u2,[]⟩] [[],[],[1,3],[],[]] 4 z (by kernel_rfl) (by kernel_rfl) z ?_ ?_
 ·refine Am z ?_ ?_
  ·intro w5 hB5
   refine Aw<|⟨_,z,?_⟩
   exact Aq (hC3.grow hB5) 1 z z A6 z z<|Ab<|A0 (An _ _) z z ⟨z,z⟩
  refine Am z ?_ ?_
  ·intro w5 hB5
   refine Aw<|⟨_,z,?_⟩
   exact Aq (hC3.grow hB5) 0 z z A6 z z<|Ab<|A0 (An _ _) z z ⟨z,z⟩
  refine Am z ?_ ?_
  ·intro w5 hB5
   refine A7 z z z ?_
   rintro _ _ ⟨rfl,rfl⟩ _
   refine A7 z z z ?_
   rintro _ _ ⟨rfl,rfl⟩ _
   refine Aw<|⟨_,z,?_⟩
   exact ci Tryz.call77 z z (c_Cmp_Compare_int a1.1 a2.1 x1 hr1) fun w4 hB4=>Ab<|A0 hB4 z z ⟨z,z⟩
  refine Am z ?_ ?_
  ·intro w5 hB5
   refine Aw<|⟨_,z,?_⟩
   exact Aq (hC3.grow hB5) 1 z z AU z z<|Ab<|A0 (An _ _) z z ⟨z,z⟩
  refine Am z ?_ ?_
  ·intro w5 hB5
   refine Aw<|⟨_,z,?_⟩
   exact Aq (hC3.grow hB5) 0 z z AU z z<|Ab<|A0 (An _ _) z z ⟨z,z⟩
  exact Ba
 intro w6 hB6
 refine Au z z z ?_
 rintro _ _ ⟨rfl,rfl⟩
 refine Au z z z ?_
 rintro _ _ ⟨rfl,rfl⟩
 refine Au z z z ?_
 rintro _ _ ⟨rfl,rfl⟩
 refine Au z z z ?_
 rintro _ _ ⟨rfl,rfl⟩
 refine Au z z z ?_
 rintro _ _ ⟨rfl,rfl⟩
 refine Bh fun hn1 hb1=>have hC4:=hC3.grow hB6;be hF fun x2 hr2 hF=>oe 9 z<|ci Tryz.call78 z z (c_Slices_Compare_Lint_int a1.2 u1 (g1.now hC4.keep) a2.2 u2 (g2.now hC4.keep) x2 hr2) fun w7 hB7=>have hC5:=hC4.grow hB7;Ab<|oe 10 z<|AN (vs:=[(I x1),(I x2)]) hC5 Ap ty3 z z z z (fac z<|fac z<|fa0) z z fun b3 w9 hC6 hB8=>?_
 have hC7:=hC6.row0 (α:=Int)
 have hC8:=hC7.triv (Bv (x2))
 have hC9:=hC8.row1
 have hC10:=hC9.triv (Bv (x1))
 have hC11:=hC10.row1
 have hC12:=hC11.front 1 z
 dsimp only [List.eraseIdx,List.cons_append,List.nil_append,List.append_nil] at hC12
 have hC13:Ctx [] w0 w9 (Ag (.slice (some ⟨b3,0,none⟩) 2 2) ([x1,x2]:List Int)::[Ac b2 [(I a2.1),u2],Ac b1 [(I a1.1),u1]]):=hC12.rowOwn (by simp [maxLen])
 refine Ab<|be hF fun x3 hr3 hF=>oe 11 z<|ci Tryz.call76 z z (c_Cmp_Or_int ([x1,x2]) (.slice (some ⟨b3,0,none⟩) 2 2) ((hC13.ro 0 z).now (B5 _ _)) x3 hr3) fun w10 hB9=>have hC14:=hC13.grow hB9;Ab<|ta 12 z z z<|dn<|Av<|AK<|?_
 obtain rfl:=Aa hF
 exact AB z z<|⟨_,z,B7 hC14 _⟩
theorem c_M_AreFacts {w0:World} (a1:(List Int)) (u1:Value) (g1:RO [] w0 u1 a1) (a2:(List (Int × (List Int)))) (u2:Value) (g2:RO [] w0 u2 a2) (rr:Bool) (hF:M.AreFacts a1 a2=some rr) :
 Calls Tryz.prog 44 [u1,u2].toArray w0 fun e w'=>∃v,e=.returned v∧Res w0 rr v w':=by
 refine A3 Tryz.func44 z z ?_
 have hC0:=AH w0
 unfold M.AreFacts at hF
 refine Ad<|Af z z<|Ab<|AA<|Ad<|Ae z z<|Bo Ah g2 z z<|Ae z z<|Ab<|be hF fun r1 hr1 hF=>Bx (fun l w=>.inl ()=r1∧l=[(0,u1),(1,u2)]∧Ctx [] w0 w []) ?_ ?_
 ·refine Bb<|wS (l':=[(0,u1),(1,u2),(7,u2),(8,(I (List.length a2:Int))),(9,(I 0))]) ⟨z,z,z,z,z,Ak⟩<|BE (fun k l w=>∃x1:Int,l=[(0,u1),(1,u2),(7,u2),(8,(I (List.length a2:Int))),(9,(I x1))]∧Ctx [] w0 w []∧M.AreFacts_l1 a2 a1 k x1=some r1) FUEL ⟨0,z,hC0,hr1⟩<|?_
  clear hr1
  rintro k1 _ w1 ⟨x1,rfl,hC1,hL1⟩
  cases k1 with
  | zero=>rw [M.AreFacts_l1] at hL1; cases hL1
  | succ k1 =>
   rw [M.AreFacts_l1] at hL1
   refine Ad<|B8 z z z<|Ab<|AA<|AL z (fun hc1=>?_) (fun hc1=>?_)
   ·replace hL1:=AD hL1 hc1
    refine AM<|Av<|AA<|Bb<|Ad<|Ae z z<|be hL1 fun x2 hx1 hL1=>AZ Ah ty29 g2 hx1 z z z fun b1 o1 h1=>Be ty29 h1 hC1.keep z z fun v1 h2=>?_
    obtain ⟨v2,rfl,h3⟩:=BM h2
    refine Bd hC1 zero29 z z fun b2 w2 hC2 hB2 hN1=>Af z z<|Aj (cs':=[(I x2.1),v2]) (new:=[(I x2.1),v2]) hC2 0 z z (fac z<|fac (AT h3)<|fa0) z AQ z z fun w3 hC3 hKp1=>?_
    try dsimp only [List.set] at hC3
    have hk1:=Ar (Al hB2) hN1 hKp1
    refine Ab<|be hL1 fun r2 hr2 hL1=>BL (fun l w=>∃x3:Bool,x3=r2∧l=[(0,u1),(1,u2),(7,u2),(8,(I (List.length a2:Int))),(9,(I x1)),(31,(.bool x3))]∧Below w3.heap.size w3 w∧Ctx [] w0 w []) ?_ ?_
    ·refine W_drawn 18 z hmix fun w5 hB4=>have hC5:=hC3.grow hB4;tm 0 z z z<|oe 1 z<|At [(I x2.1),v2] hC5 0 z z z By AQ z z<|Ab<|be hr2 fun x4 hr3 hr2=>oe 2 z<|cb Tryz.call34 z z (c_M_IsFact a1 u1 (g1.now hC5.keep) (x2.1,x2.2) v2 (h3.now hC5.keep) x4 hr3) fun w6 hB5=>have hC6:=hC5.grow hB5;Ab<|tk 3 z z (CG z)<|B2 z z<|Ab<|tm 4 z z z<|BO (fun hc2=>?_) (fun hc2=>?_)
     ·replace hr2:=AD hr2 hc2
      refine sk 5 z z z z z<|sk 6 z z z z z<|sk 7 z z z z z<|sk 8 z z z z z<|sk 9 z z z z z<|sk 10 z z z z z<|sk 11 z z z z z<|sk 12 z z z z z<|sk 13 z z z z z<|sk 14 z z z z z<|sk 15 z z z z z<|sk 16 z z z z z<|tp 17 z z z z<|dn<|?_
      obtain rfl:=Aa hr2
      have hC7:=hC6.h0
      exact Ay (l':=[(0,u1),(1,u2),(7,u2),(8,(I (List.length a2:Int))),(9,(I x1)),(31,(.bool true))]) ⟨z,z,z,z,z,z,Ak⟩<|⟨true,z,z,((Al hB4).then hB5).below,hC7⟩
     replace hr2:=AE hr2 hc2
     refine tn 5 z z z z z<|tg 6 z z z z (fl_gtr z z)<|Ai z z<|Cr z z z<|Ab<|tn 7 z z z z z<|BO (fun hc3=>?_) (fun hc3=>?_)
     ·replace hr2:=AD hr2 hc3
      refine tn 8 z z z z z<|tn 9 z z z z z<|tg 10 z z z z (Cz z z)<|Ai z z<|BV z z z<|Ab<|be hr2 fun x5 hx2 hr2=>tg 11 z z z z (BK Ah ty29 g2 hx2 z z)<|Ai z z<|AZ Ah ty29 g2 hx2 z z z fun b3 o2 h4=>Ab<|wAS (l':=[(0,u1),(1,u2),(5,(I x1)),(6,(ptr b2 0)),(7,u2),(8,(I (List.length a2:Int))),(9,(I x1)),(10,(.bool (decide (x1 < (List.length a2:Int))))),(11,(I x1)),(12,(ptr b1 o1)),(13,(.agg #[(I x2.1),v2])),(14,u1),(15,(.agg #[(I x2.1),v2])),(16,(.bool x4)),(17,(.bool (!x4))),(18,(.bool false)),(19,(I x1)),(20,(.bool (decide (0 < x1)))),(21,(.bool true)),(22,u2),(23,(I x1)),(24,(I (w64 (x1 - 1)))),(25,(ptr b3 o2))]) ⟨z,z,z,z,z,z,z,z,z,z,z,z,z,z,z,z,z,z,z,z,z,z,z,Ak⟩<|Bq [⟨12,[],fun vs=>Cs [] w0 x5,[]⟩,⟨13,[],fun vs=>AR (.agg #[(I x2.1),v2]),[]⟩] [[],[]] 4 z (by kernel_rfl) (by kernel_rfl) z ?_ ?_
      ·refine Am z ?_ ?_
       ·intro w7 hB6
        refine Aw<|⟨_,z,?_⟩
        exact Ai z z<|Be ty29 h4 (hC6.keep.then hB6) z z fun v5 h7=>Ab<|A0 (An _ _) z z ⟨z,h7⟩
       refine Am z ?_ ?_
       ·intro w7 hB6
        refine Aw<|⟨_,z,?_⟩
        exact Ai z z<|At [(I x2.1),v2] (hC6.grow hB6) 0 z z z By AQ z z<|Ab<|A0 (An _ _) z z ⟨z,z⟩
       exact Ba
      intro w9 hB7
      refine Au z z z ?_
      rintro v5 _ ⟨rfl,h7⟩
      obtain ⟨v4,rfl,h6⟩:=BM h7
      refine Au z z z ?_
      rintro _ _ ⟨rfl,rfl⟩
      refine Bh fun hn1 hb1=>have hC8:=hC6.grow hB7;be hr2 fun x6 hr4 hr2=>oe 14 z<|Ai z z<|ci CJ z z (c_M_CompareFacts x5 v4 (h6.now hC8.keep) (x2.1,x2.2) v2 (h3.now hC8.keep) x6 hr4) fun w10 hB8=>have hC9:=hC8.grow hB8;Ab<|tg 15 z z z z (fl_geq z z)<|Ai z z<|Cu z z z<|Ab<|tg 16 z z z z (fl_pick_t z z)<|Ai z z<|AI z z z<|Ab<|tq 17 z z z z<|dn<|?_
      obtain rfl:=Aa hr2
      have hC10:=hC9.h0
      exact Ay (l':=[(0,u1),(1,u2),(7,u2),(8,(I (List.length a2:Int))),(9,(I x1)),(31,(.bool (decide (0 ≤ x6))))]) ⟨z,z,z,z,z,z,Ak⟩<|⟨(decide (0 ≤ x6)),z,z,((((Al hB4).then hB5).then hB7).then hB8).below,hC10⟩
     replace hr2:=AE hr2 hc3
     refine sk 8 z z z z z<|sk 9 z z z z z<|sk 10 z z z z z<|sk 11 z z z z z<|sk 12 z z z z z<|sk 13 z z z z z<|sk 14 z z z z z<|sk 15 z z z z z<|tg 16 z z z z (fl_pick_f z z)<|Ai z z<|AY z z z<|Ab<|tq 17 z z z z<|dn<|?_
     obtain rfl:=Aa hr2
     have hC11:=hC6.h0
     exact Ay (l':=[(0,u1),(1,u2),(7,u2),(8,(I (List.length a2:Int))),(9,(I x1)),(31,(.bool false))]) ⟨z,z,z,z,z,z,Ak⟩<|⟨false,z,z,((Al hB4).then hB5).below,hC11⟩
    rintro _ w4 ⟨x3,rfl,rfl,hB3,hC4⟩
    try dsimp only at hL1
    refine AL z (fun hc4=>?_) (fun hc4=>?_)
    ·replace hL1:=AD hL1 hc4
     refine Ad<|Af z z<|Ab<|AK<|Bu<|A2<|A2<|Bu<|A2<|A2<|?_
     obtain rfl:=Aa hL1
     dsimp only at hF
     obtain rfl:=Aa hF
     exact AB z z<|⟨_,z,Bf hC4 _⟩
    replace hL1:=AE hL1 hc4
    exact AM<|Bg<|Av<|Bt<|Bw z z z<|Ae z z<|Ab<|Ay (l':=[(0,u1),(1,u2),(7,u2),(8,(I (List.length a2:Int))),(9,(I (w64 (x1+1))))]) ⟨z,z,z,z,z,Ak⟩<|⟨k1,AO _,w64 (x1+1),z,hC4,hL1⟩
   replace hL1:=AE hL1 hc1
   refine BF (AW (AW (B4 ?_)))
   obtain rfl:=Aa hL1
   exact Ay (l':=[(0,u1),(1,u2)]) ⟨z,z,Ak⟩<|⟨z,z,hC1⟩
 rintro l3 _ w11 hs3 ⟨rfl,rfl,hC12⟩
 try dsimp only at hF
 refine Bm hs3 ?_
 clear hs3
 refine be hF fun r3 hr5 hF=>BL (fun l w=>∃x7:Bool,x7=r3∧l=[(4,(.bool x7))]∧Below w11.heap.size w11 w∧Ctx [] w0 w []) ?_ ?_
 ·refine Bt<|Ae z z<|be hr5 fun x8 hr6 hr5=>cb Tryz.call80 z z (c_M_IsSchema a1 u1 (g1.now hC12.keep) x8 hr6) fun w13 hB11=>have hC14:=hC12.grow hB11;Ae z z<|B3 (fun hc5=>?_) (fun hc5=>?_)
  ·replace hr5:=AD hr5 hc5
   refine Ai z z<|Ae z z<|Ai z z<|Bo Ah g2 z z<|Ai z z<|CE z z z<|AI z z z<|Af z z<|Ab<|?_
   obtain rfl:=Aa hr5
   exact Ay (l':=[(4,(.bool (decide ((List.length a2:Int) ≤ 24))))]) ⟨z,Ak⟩<|⟨(decide ((List.length a2:Int) ≤ 24)),z,z,(Al hB11).below,hC14⟩
  replace hr5:=AE hr5 hc5
  refine gs z z z z<|gs z z z z<|gs z z z z<|AY z z z<|Af z z<|Ab<|?_
  obtain rfl:=Aa hr5
  exact Ay (l':=[(4,(.bool false))]) ⟨z,Ak⟩<|⟨false,z,z,(Al hB11).below,hC14⟩
 rintro _ w12 ⟨x7,rfl,rfl,hB10,hC13⟩
 try dsimp only at hF
 refine AK ?_
 obtain rfl:=Aa hF
 exact AB z z<|⟨_,z,Bf hC13 _⟩
theorem c_M_IsSource {w0:World} (a1:(List Int)) (u1:Value) (g1:RO [] w0 u1 a1) (a2:((List (Int × (List Int))) × Int)) (u2:Value) (g2:RO [] w0 u2 a2.1) (rr:Bool) (hF:M.IsSource a1 a2=some rr) :
 Calls Tryz.prog 10 [u1,(.agg #[u2,(I a2.2)])].toArray w0 fun e w'=>∃v,e=.returned v∧Res w0 rr v w':=by
 refine A3 Tryz.func10 z z ?_
 have hC0:=AH w0
 unfold M.IsSource at hF
 refine Ad<|Bz (cs:=[u2,(I a2.2)]) hC0 z z z fun b1 w1 hC1 hB1 hN1=>Af z z<|Ab<|be hF fun r1 hr1 hF=>BL (fun l w=>∃x1:Bool,x1=r1∧l=[(4,(.bool x1))]∧Below w1.heap.size w1 w∧Ctx [] w0 w []) ?_ ?_
 ·refine Bt<|Ae z z<|fd A5 AG z z z z<|Aq hC1 0 z z Bk z z<|be hr1 fun x2 hr2 hr1=>cb Tryz.call44 z z (c_M_AreFacts a1 u1 (g1.now hC1.keep) a2.1 u2 (g2.now hC1.keep) x2 hr2) fun w3 hB3=>have hC3:=hC1.grow hB3;Ae z z<|B3 (fun hc1=>?_) (fun hc1=>?_)
  ·replace hr1:=AD hr1 hc1
   refine Ai z z<|fd A5 Ax z z z z<|Ai z z<|Aq hC3 0 z z A6 z z<|be hr1 fun x3 hr3 hr1=>Ai z z<|cb BQ z z (c_M_within a2.2 0 1000 x3 hr3) fun w4 hB4=>have hC4:=hC3.grow hB4;AI z z z<|Af z z<|Ab<|?_
   obtain rfl:=Aa hr1
   have hC5:=hC4.h0
   exact Ay (l':=[(4,(.bool x3))]) ⟨z,Ak⟩<|⟨x3,z,z,((Al hB3).then hB4).below,hC5⟩
  replace hr1:=AE hr1 hc1
  refine gs z z z z<|gs z z z z<|gs z z z z<|AY z z z<|Af z z<|Ab<|?_
  obtain rfl:=Aa hr1
  have hC6:=hC3.h0
  exact Ay (l':=[(4,(.bool false))]) ⟨z,Ak⟩<|⟨false,z,z,(Al hB3).below,hC6⟩
 rintro _ w2 ⟨x1,rfl,rfl,hB2,hC2⟩
 try dsimp only at hF
 refine AK ?_
 obtain rfl:=Aa hF
 exact AB z z<|⟨_,z,Bf hC2 _⟩
theorem c_Slices_Clone_Lint_int {w0:World} (a1:(List Int)) (u1:Value) (g1:RO [] w0 u1 a1) (rr:(List Int)) (hF:Slices.Clone_Lint_int a1=some rr) :
 Calls Tryz.prog 82 [u1].toArray w0 fun e w'=>∃v,e=.returned v∧Res w0 rr v w':=by
 refine A3 Tryz.func82 z z ?_
 have hC0:=AH w0
 unfold Slices.Clone_Lint_int at hF
 refine Ad<|Af z z<|Ab<|AA<|Ad<|Ae z z<|WL_isnil Ap g1 z z fun bn1 hb1=>Ab<|?_
 rcases btf bn1 with hc1 | hc1
 ·have ha:=hb1 hc1
  subst hc1
  subst ha
  replace hF:(some ([]):Option (List Int))=some rr:=by simpa [app] using hF
  refine C8 z<|Ad<|Af z z<|Ab<|AK<|A2<|?_
  obtain rfl:=Aa hF
  exact AB z z<|⟨_,z,nil_res hC0⟩
 subst hc1
 refine C9 z<|AM<|Av<|Ad<|AN (vs:=[]) hC0 Ap ty3 z z z z (by simp) z z fun b1 w1 hC1 hB1=>?_
 have hC2:=hC1.row0 (α:=Int)
 have hC3:=hC2.front 1 z
 dsimp only [List.eraseIdx,List.cons_append,List.nil_append,List.append_nil] at hC3
 have hC4:Ctx [] w0 w1 (Ag (.slice (some ⟨b1,0,none⟩) 0 0) (([]:List Int):List Int)::[]):=hC3.rowOwn (by simp [maxLen])
 refine Ae z z<|be hF fun x1 hx1 hF=>BN (α:=Int) hC4 0 z g1 hC4.keep Ap ty3 z hx1 z z z fun v1 w2 hC5=>?_
 try dsimp only [List.set] at hC5
 refine Af z z<|Ab<|AK<|?_
 obtain rfl:=Aa hF
 exact AB z z<|⟨_,z,Cf hC5 0 z⟩
theorem c_M_copyFact {w0:World} (a1:(Int × (List Int))) (u1:Value) (g1:RO [] w0 u1 a1.2) (rr:(Int × (List Int))) (hF:M.copyFact a1=some rr) :
 Calls Tryz.prog 75 [(.agg #[(I a1.1),u1])].toArray w0 fun e w'=>∃v,e=.returned v∧Res w0 rr v w':=by
 refine A3 Tryz.func75 z z ?_
 have hC0:=AH w0
 unfold M.copyFact at hF
 refine Ad<|Bz (cs:=[(I a1.1),u1]) hC0 z z z fun b1 w1 hC1 hB1 hN1=>Bd hC1 zero29 z z fun b2 w2 hC2 hB2 hN2=>Ab<|AA<|W_drawn 7 z hmix fun w3 hB3=>have hC3:=hC2.grow hB3;tf 0 A1 Ax z z z z z<|tf 2 A1 A4 z z z z z<|be hF fun x1 hr1 hF=>wAS (l':=[(0,(.agg #[(I a1.1),u1])),(1,(ptr b1 0)),(2,(ptr b2 0)),(3,(ptr b1 0)),(5,(ptr b1 1))]) ⟨z,z,z,z,z,Ak⟩<|Bq [⟨1,[],fun vs=>AR (I a1.1),[]⟩,⟨3,[],fun vs=>AR u1,[]⟩,⟨4,[],fun vs=>Cv x1,[]⟩] [[],[],[3]] 2 z (by kernel_rfl) (by kernel_rfl) z ?_ ?_
 ·refine Am z ?_ ?_
  ·intro w5 hB5
   refine Aw<|⟨_,z,?_⟩
   exact Aq (hC3.grow hB5) 1 z z A6 z z<|Ab<|A0 (An _ _) z z ⟨z,z⟩
  refine Am z ?_ ?_
  ·intro w5 hB5
   refine Aw<|⟨_,z,?_⟩
   exact Aq (hC3.grow hB5) 1 z z AU z z<|Ab<|A0 (An _ _) z z ⟨z,z⟩
  refine Am z ?_ ?_
  ·intro w5 hB5
   refine A7 z z z ?_
   rintro _ _ ⟨rfl,rfl⟩ _
   refine Aw<|⟨_,z,?_⟩
   refine AJ Tryz.call82 z z (c_Slices_Clone_Lint_int a1.2 u1 (g1.now (hC3.keep.then hB5)) x1 hr1) ?_
   rintro v1 w4 ⟨hB4,F1,hv1,hn1,hb1⟩
   exact Ab<|Cq hB4 z z hv1 hn1 hb1 (Val.inh hv1)
  exact Ba
 intro w6 hB6
 refine Au z z z ?_
 rintro _ _ ⟨rfl,rfl⟩
 refine Au z z z ?_
 rintro _ _ ⟨rfl,rfl⟩
 refine Au z z z fun v1 F1 hv1=>Bh fun hn2 hb2=>?_
 have hC4:=hC3.pushL hB6 (Bs:=[Ag v1 (x1:(List Int))]) (Fs:=[F1]) ⟨F1,_,z,hv1,z⟩ (by simpa using hn2) (fun b h=>(hb2 b (by simpa using h)).1)
 refine tk 5 z z (Cp (vs:=[(0,(I a1.1)),(1,v1)]) z z (built29_0_1 z (Ca (hC4.ro 0 z))))<|BD (vs:=[(0,(I a1.1)),(1,v1)]) z z z (built29_0_1 z (Ca (hC4.ro 0 z)))<|Ab<|oe 6 z<|Aj (cs':=[(I a1.1),v1]) (new:=[(I a1.1),v1]) hC4 1 z z (fac z<|fac (AT (hC4.ro 0 z))<|fa0) z AQ z z fun w7 hC5 hKp1=>?_
 try dsimp only [List.set] at hC5
 have hk1:=Ar ((((Al hB1).then hB2).then hB3).then hB6) (Ao (Al hB1).size hN2) hKp1
 have hk2:=Ar (((Al hB2).then hB3).then hB6) hN2 hKp1
 refine Ab<|dn<|Av<|AK<|?_
 obtain rfl:=Aa hF
 refine BR z (rv_cell_agg (cs':=[(I a1.1),v1]) hC5 (i:=1) z z z By AQ z) ?_
 have hC6:=Cj a1.1 v1 x1 hC5
 exact ⟨_,z,Cf hC6 0 z⟩
theorem c_M_copyFacts {w0:World} (a1:(List (Int × (List Int)))) (u1:Value) (g1:RO [] w0 u1 a1) (rr:(List (Int × (List Int)))) (hF:M.copyFacts a1=some rr) :
 Calls Tryz.prog 67 [u1].toArray w0 fun e w'=>∃v,e=.returned v∧Res w0 rr v w':=by
 refine A3 Tryz.func67 z z ?_
 have hC0:=AH w0
 unfold M.copyFacts at hF
 refine Ad<|Af z z<|Ab<|Ad<|AN (vs:=[]) hC0 Ah ty29 z z z z (by simp) z z fun b1 w1 hC1 hB1=>?_
 have hC2:=hC1.row0 (α:=(Int × (List Int)))
 have hC3:=hC2.front 1 z
 dsimp only [List.eraseIdx,List.cons_append,List.nil_append,List.append_nil] at hC3
 have hC4:Ctx [] w0 w1 (Ag (.slice (some ⟨b1,0,none⟩) 0 0) (([]:List (Int × (List Int))):List (Int × (List Int)))::[]):=hC3.rowOwn (by simp [maxLen])
 refine Af z z<|Ab<|AA<|Ad<|Ae z z<|Bo Ah g1 z z<|Ae z z<|Ab<|be hF fun r1 hr1 hF=>Bx (fun l w=>∃v2:Value,∃x3:(List (Int × (List Int))),x3=r1∧l=[(3,v2)]∧Ctx [] w0 w [Ag v2 (x3:(List (Int × (List Int))))]) ?_ ?_
 ·refine Bb<|wS (l':=[(3,(.slice (some ⟨b1,0,none⟩) 0 0)),(7,u1),(8,(I (List.length a1:Int))),(9,(I 0))]) ⟨z,z,z,z,Ak⟩<|BE (fun k l w=>∃v1:Value,∃x1:(List (Int × (List Int))),∃x2:Int,l=[(3,v1),(7,u1),(8,(I (List.length a1:Int))),(9,(I x2))]∧Ctx [] w0 w [Ag v1 (x1:(List (Int × (List Int))))]∧M.copyFacts_l1 a1 k x1 x2=some r1) FUEL ⟨(.slice (some ⟨b1,0,none⟩) 0 0),([]:List (Int × (List Int))),0,z,hC4,hr1⟩<|?_
  clear hr1
  rintro k1 _ w2 ⟨v1,x1,x2,rfl,hC5,hL1⟩
  cases k1 with
  | zero=>rw [M.copyFacts_l1] at hL1; cases hL1
  | succ k1 =>
   rw [M.copyFacts_l1] at hL1
   refine Ad<|B8 z z z<|Ab<|AA<|AL z (fun hc1=>?_) (fun hc1=>?_)
   ·replace hL1:=AD hL1 hc1
    refine AM<|Av<|AA<|Bb<|Ad<|be hL1 fun x4 hx1 hL1=>AZ Ah ty29 g1 hx1 z z z fun b2 o1 h1=>Be ty29 h1 hC5.keep z z fun v3 h2=>?_
    obtain ⟨v4,rfl,h3⟩:=BM h2
    refine Bd hC5 zero29 z z fun b3 w3 hC6 hB3 hN1=>Aj (cs':=[(I x4.1),v4]) (new:=[(I x4.1),v4]) hC6 0 z z (fac z<|fac (AT h3)<|fa0) z AQ z z fun w4 hC7 hKp1=>?_
    try dsimp only [List.set] at hC7
    have hk1:=Ar (Al hB3) hN1 hKp1
    refine Ab<|Bt<|Ae z z<|At [(I x4.1),v4] hC7 0 z z z By AQ z z<|be hL1 fun x5 hr2 hL1=>AJ Tryz.call75 z z (c_M_copyFact (x4.1,x4.2) v4 (h3.now hC7.keep) x5 hr2)<|?_
    rintro v5 w5 ⟨hB4,F1,hv1,hn1,hb1⟩
    have hC8:=hC7.push hB4 (A:=Ag v5 x5) hv1 hn1 hb1
    obtain ⟨v6,rfl,hC9⟩:=st29_own hC8
    refine AN (vs:=[(.agg #[(I x5.1),v6])]) hC9 Ah ty29 z z z z (fac z<|fa0) z z (fun b4 w6 hC10 hB5=>?_)
    have hC11:=hC10.row0 (α:=(Int × (List Int)))
    have hC13:=hC11.f2
    have hC12:=Cj x5.1 v6 x5.2 hC13
    have hC14:=hC12.row1
    have hC15:=hC14.front 1 z
    dsimp only [List.eraseIdx,List.cons_append,List.nil_append,List.append_nil] at hC15
    have hC16:Ctx [] w0 w6 (Ag (.slice (some ⟨b4,0,none⟩) 1 1) ([(x5.1,x5.2)]:List (Int × (List Int)))::[Ac b3 [(I x4.1),v4],Ag v1 (x1:(List (Int × (List Int))))]):=hC15.rowOwn (by simp [maxLen])
    refine be hL1 fun x6 hx2 hL1=>BA hC16 1 z Ah ty29 z hx2 z z z fun v7 w7 hC17=>?_
    try dsimp only [List.set] at hC17
    exact Af z z<|Ab<|Bg<|Av<|Bt<|Bw z z z<|Ae z z<|Ab<|have hC19:=hC17.f1;have hC20:=hC19.h1;Ay (l':=[(3,v7),(7,u1),(8,(I (List.length a1:Int))),(9,(I (w64 (x2+1))))]) ⟨z,z,z,z,Ak⟩<|⟨k1,AO _,v7,x6,w64 (x2+1),z,hC20,hL1⟩
   replace hL1:=AE hL1 hc1
   refine BF (AW (AW (B4 ?_)))
   obtain rfl:=Aa hL1
   exact Ay (l':=[(3,v1)]) ⟨z,Ak⟩<|⟨v1,x1,z,z,hC5⟩
 rintro l2 _ w9 hs2 ⟨v2,x3,rfl,rfl,hC21⟩
 try dsimp only at hF
 refine Bm hs2 ?_
 clear hs2
 refine Ad<|Ae z z<|Af z z<|Ab<|AK<|?_
 obtain rfl:=Aa hF
 exact AB z z<|⟨_,z,Cf hC21 0 z⟩
theorem c_M_copySource {w0:World} (a1:((List (Int × (List Int))) × Int)) (u1:Value) (g1:RO [] w0 u1 a1.1) (rr:((List (Int × (List Int))) × Int)) (hF:M.copySource a1=some rr) :
 Calls Tryz.prog 32 [(.agg #[u1,(I a1.2)])].toArray w0 fun e w'=>∃v,e=.returned v∧Res w0 rr v w':=by
 refine A3 Tryz.func32 z z ?_
 have hC0:=AH w0
 unfold M.copySource at hF
 refine Ad<|Bz (cs:=[u1,(I a1.2)]) hC0 z z z fun b1 w1 hC1 hB1 hN1=>Bd hC1 zero27 z z fun b2 w2 hC2 hB2 hN2=>Ab<|AA<|W_drawn 7 z hmix fun w3 hB3=>have hC3:=hC2.grow hB3;tf 0 A5 AG z z z z z<|tf 3 A5 Ax z z z z z<|be hF fun x1 hr1 hF=>wAS (l':=[(0,(.agg #[u1,(I a1.2)])),(1,(ptr b1 0)),(2,(ptr b2 0)),(3,(ptr b1 0)),(6,(ptr b1 1))]) ⟨z,z,z,z,z,Ak⟩<|Bq [⟨1,[],fun vs=>AR u1,[]⟩,⟨2,[],fun vs=>Cv x1,[]⟩,⟨4,[],fun vs=>AR (I a1.2),[]⟩] [[],[1],[]] 2 z (by kernel_rfl) (by kernel_rfl) z ?_ ?_
 ·refine Am z ?_ ?_
  ·intro w5 hB5
   refine Aw<|⟨_,z,?_⟩
   exact Aq (hC3.grow hB5) 1 z z Bk z z<|Ab<|A0 (An _ _) z z ⟨z,z⟩
  refine Am z ?_ ?_
  ·intro w5 hB5
   refine A7 z z z ?_
   rintro _ _ ⟨rfl,rfl⟩ _
   refine Aw<|⟨_,z,?_⟩
   refine AJ Tryz.call67 z z (c_M_copyFacts a1.1 u1 (g1.now (hC3.keep.then hB5)) x1 hr1) ?_
   rintro v1 w4 ⟨hB4,F1,hv1,hn1,hb1⟩
   exact Ab<|Cq hB4 z z hv1 hn1 hb1 (Val.inh hv1)
  refine Am z ?_ ?_
  ·intro w5 hB5
   refine Aw<|⟨_,z,?_⟩
   exact Aq (hC3.grow hB5) 1 z z A6 z z<|Ab<|A0 (An _ _) z z ⟨z,z⟩
  exact Ba
 intro w6 hB6
 refine Au z z z ?_
 rintro _ _ ⟨rfl,rfl⟩
 refine Au z z z fun v1 F1 hv1=>Au z z z<|?_
 rintro _ _ ⟨rfl,rfl⟩
 refine Bh ?_
 intro hn2 hb2
 have hC4:=hC3.pushL hB6 (Bs:=[Ag v1 (x1:(List (Int × (List Int))))]) (Fs:=[F1]) ⟨F1,_,z,hv1,z⟩ (by simpa using hn2) (fun b h=>(hb2 b (by simpa using h)).1)
 refine tk 5 z z (Cp (vs:=[(0,v1),(1,(I a1.2))]) z z (built27_0_1 (Ca (hC4.ro 0 z)) z))<|BD (vs:=[(0,v1),(1,(I a1.2))]) z z z (built27_0_1 (Ca (hC4.ro 0 z)) z)<|Ab<|oe 6 z<|Aj (cs':=[v1,(I a1.2)]) (new:=[v1,(I a1.2)]) hC4 1 z z (fac (AT (hC4.ro 0 z))<|fac z<|fa0) z Az z z fun w7 hC5 hKp1=>?_
 try dsimp only [List.set] at hC5
 have hk1:=Ar ((((Al hB1).then hB2).then hB3).then hB6) (Ao (Al hB1).size hN2) hKp1
 have hk2:=Ar (((Al hB2).then hB3).then hB6) hN2 hKp1
 refine Ab<|dn<|Av<|AK<|?_
 obtain rfl:=Aa hF
 refine BR z (rv_cell_agg (cs':=[v1,(I a1.2)]) hC5 (i:=1) z z z A8 Az z) ?_
 have hC6:=Cb v1 x1 a1.2 hC5
 exact ⟨_,z,Cf hC6 0 z⟩
theorem c_M_HasFact_c1 {w0:World} (a1:(Int × (List Int))) (u1:Value) (g1:RO [] w0 u1 a1.2) (pb1:Nat) (ax1:(Int × (List Int))) (g2:ROAt [] w0 pb1 0 ax1) (rr:Bool) (hF:M.HasFact_c1 a1 ax1=some rr) :
 Calls Tryz.prog 69 [(.agg #[(I a1.1),u1]),(ptr pb1 0)].toArray w0 fun e w'=>∃v,e=.returned v∧Res w0 rr v w':=by
 refine A3 Tryz.func69 z z ?_
 have hC0:=AH w0
 unfold M.HasFact_c1 at hF
 refine Ad<|Bz (cs:=[(I a1.1),u1]) hC0 z z z fun b1 w1 hC1 hB1 hN1=>Af z z<|Ab<|Ad<|At [(I a1.1),u1] hC1 0 z z z By AQ z z<|Be ty29 g2 hC1.keep z z fun v1 h1=>?_
 obtain ⟨v2,rfl,h2⟩:=BM h1
 refine be hF fun x1 hr1 hF=>ci CJ z z (c_M_CompareFacts (a1.1,a1.2) u1 (g1.now hC1.keep) ax1 v2 (h2.now hC1.keep) x1 hr1) fun w2 hB2=>have hC2:=hC1.grow hB2;BP z z z<|Af z z<|Ab<|AK<|?_
 obtain rfl:=Aa hF
 exact AB z z<|⟨_,z,Bf hC2 _⟩
theorem c_Slices_IndexFunc_Limpl_Fact_impl_Fact_M_HasFact_c1 {w0:World} (a1:(List (Int × (List Int)))) (u1:Value) (g1:RO [] w0 u1 a1) (pb1:Nat) (ax1:(Int × (List Int))) (g2:ROAt [] w0 pb1 0 ax1) (rr:Int) (hF:Slices.IndexFunc_Limpl_Fact_impl_Fact_M_HasFact_c1 a1 ax1=some rr) :
 Calls Tryz.prog 72 [u1,(.func (.func 69) #[] #[(ptr pb1 0)])].toArray w0 fun e w'=>∃v,e=.returned v∧Res w0 rr v w':=by
 refine A3 CK z z ?_
 have hC0:=AH w0
 unfold Slices.IndexFunc_Limpl_Fact_impl_Fact_M_HasFact_c1 at hF
 refine Ad<|Af z z<|Ab<|AA<|Ad<|Ae z z<|Bo Ah g1 z z<|Ae z z<|Ab<|be hF fun r1 hr1 hF=>Bx (fun l w=>.inl ()=r1∧l=[]∧Below w0.heap.size w0 w∧Ctx [] w0 w []) ?_ ?_
 ·refine Bb<|wS (l':=[(0,u1),(1,(.func (.func 69) #[] #[(ptr pb1 0)])),(7,(I (List.length a1:Int))),(8,(I 0))]) ⟨z,z,z,z,Ak⟩<|BE (fun k l w=>∃x1:Int,l=[(0,u1),(1,(.func (.func 69) #[] #[(ptr pb1 0)])),(7,(I (List.length a1:Int))),(8,(I x1))]∧Below w0.heap.size w0 w∧Ctx [] w0 w []∧Slices.IndexFunc_Limpl_Fact_impl_Fact_M_HasFact_c1_l1 a1 ax1 k x1=some r1) FUEL ⟨0,z,(An _ _),hC0,hr1⟩<|?_
  clear hr1
  rintro k1 _ w1 ⟨x1,rfl,hB1,hC1,hL1⟩
  cases k1 with
  | zero=>rw [Slices.IndexFunc_Limpl_Fact_impl_Fact_M_HasFact_c1_l1] at hL1; cases hL1
  | succ k1 =>
   rw [Slices.IndexFunc_Limpl_Fact_impl_Fact_M_HasFact_c1_l1] at hL1
   refine Ad<|B8 z z z<|Ab<|AA<|AL z (fun hc1=>?_) (fun hc1=>?_)
   ·replace hL1:=AD hL1 hc1
    refine AM<|Av<|AA<|Bb<|Ad<|Ae z z<|Af z z<|Ab<|Ad<|Ae z z<|Ae z z<|Ae z z<|be hL1 fun x2 hx1 hL1=>AZ Ah ty29 g1 hx1 z z z fun b1 o1 h1=>Be ty29 h1 hC1.keep z z fun v1 h2=>?_
    obtain ⟨v2,rfl,h3⟩:=BM h2
    refine be hL1 fun x3 hr2 hL1=>Cw (cap:=[(ptr pb1 0)]) Tryz.call69 z z z (c_M_HasFact_c1 x2 v2 (h3.now hC1.keep) pb1 ax1 (g2.now hC1.keep) x3 hr2) fun _ w2 hv1=>?_
    obtain ⟨rfl,hB2⟩:=Cx hv1
    have hC2:=hC1.grow hB2
    refine Ab<|AL z (fun hc2=>?_) (fun hc2=>?_)
    ·replace hL1:=AD hL1 hc2
     refine Ad<|Ae z z<|Af z z<|Ab<|AK<|Bu<|A2<|A2<|Bu<|A2<|A2<|?_
     obtain rfl:=Aa hL1
     dsimp only at hF
     obtain rfl:=Aa hF
     exact AB z z<|⟨_,z,B7 hC2 _⟩
    replace hL1:=AE hL1 hc2
    exact AM<|Bg<|Av<|Bt<|Bw z z z<|Ae z z<|Ab<|Ay (l':=[(0,u1),(1,(.func (.func 69) #[] #[(ptr pb1 0)])),(7,(I (List.length a1:Int))),(8,(I (w64 (x1+1))))]) ⟨z,z,z,z,Ak⟩<|⟨k1,AO _,w64 (x1+1),z,((Al hB1).then hB2).below,hC2,hL1⟩
   replace hL1:=AE hL1 hc1
   refine BF (AW (AW (B4 ?_)))
   obtain rfl:=Aa hL1
   exact Ay (l':=[]) Ak<|⟨z,z,(Al hB1).below,hC1⟩
 rintro l2 _ w3 hs2 ⟨rfl,rfl,hB3,hC3⟩
 try dsimp only at hF
 refine Bm hs2 ?_
 clear hs2
 refine Ad<|Af z z<|Ab<|AK<|?_
 obtain rfl:=Aa hF
 exact AB z z<|⟨_,z,B7 hC3 _⟩
theorem c_Slices_ContainsFunc_Limpl_Fact_impl_Fact_M_HasFact_c1 {w0:World} (a1:(List (Int × (List Int)))) (u1:Value) (g1:RO [] w0 u1 a1) (pb1:Nat) (ax1:(Int × (List Int))) (g2:ROAt [] w0 pb1 0 ax1) (rr:Bool) (hF:Slices.ContainsFunc_Limpl_Fact_impl_Fact_M_HasFact_c1 a1 ax1=some rr) :
 Calls Tryz.prog 68 [u1,(.func (.func 69) #[] #[(ptr pb1 0)])].toArray w0 fun e w'=>∃v,e=.returned v∧Res w0 rr v w':=by
 refine A3 Tryz.func68 z z ?_
 have hC0:=AH w0
 unfold Slices.ContainsFunc_Limpl_Fact_impl_Fact_M_HasFact_c1 at hF
 refine Ad<|Af z z<|Ab<|Ad<|Ae z z<|Ae z z<|be hF fun x1 hr1 hF=>ci CL z z (c_Slices_IndexFunc_Limpl_Fact_impl_Fact_M_HasFact_c1 a1 u1 (g1.now hC0.keep) pb1 ax1 (g2.now hC0.keep) x1 hr1) fun w1 hB1=>have hC1:=hC0.grow hB1;Cu z z z<|Af z z<|Ab<|AK<|?_
 obtain rfl:=Aa hF
 exact AB z z<|⟨_,z,Bf hC1 _⟩
theorem c_M_HasFact {w0:World} (a1:(List (Int × (List Int)))) (u1:Value) (g1:RO [] w0 u1 a1) (a2:(Int × (List Int))) (u2:Value) (g2:RO [] w0 u2 a2.2) (rr:Bool) (hF:M.HasFact a1 a2=some rr) :
 Calls Tryz.prog 33 [u1,(.agg #[(I a2.1),u2])].toArray w0 fun e w'=>∃v,e=.returned v∧Res w0 rr v w':=by
 refine A3 Tryz.func33 z z ?_
 have hC0:=AH w0
 unfold M.HasFact at hF
 refine Ad<|Bz (cs:=[(I a2.1),u2]) hC0 z z z fun b1 w1 hC1 hB1 hN1=>Af z z<|Ab<|Ad<|Ae z z<|C3 z z<|be hF fun x1 hr1 hF=>cb Tryz.call68 z z (c_Slices_ContainsFunc_Limpl_Fact_impl_Fact_M_HasFact_c1 a1 u1 (g1.now hC1.keep) b1 (a2.1,a2.2) (hC1.boxAt 0 z (repw_pair repw_int (repw_slice (g2.now hC1.keep)))) x1 hr1) fun w2 hB2=>have hC2:=hC1.grow hB2;Af z z<|Ab<|AK<|?_
 obtain rfl:=Aa hF
 exact AB z z<|⟨_,z,Bf hC2 _⟩
theorem c_M_added_c1 {w0:World} (a1:(Int × (List Int))) (u1:Value) (g1:RO [] w0 u1 a1.2) (pb1:Nat) (ax1:(Int × (List Int))) (g2:ROAt [] w0 pb1 0 ax1) (rr:Bool) (hF:M.added_c1 a1 ax1=some rr) :
 Calls Tryz.prog 73 [(.agg #[(I a1.1),u1]),(ptr pb1 0)].toArray w0 fun e w'=>∃v,e=.returned v∧Res w0 rr v w':=by
 refine A3 Tryz.func73 z z ?_
 have hC0:=AH w0
 unfold M.added_c1 at hF
 refine Ad<|Bz (cs:=[(I a1.1),u1]) hC0 z z z fun b1 w1 hC1 hB1 hN1=>Af z z<|Ab<|Ad<|At [(I a1.1),u1] hC1 0 z z z By AQ z z<|Be ty29 g2 hC1.keep z z fun v1 h1=>?_
 obtain ⟨v2,rfl,h2⟩:=BM h1
 refine be hF fun x1 hr1 hF=>ci CJ z z (c_M_CompareFacts (a1.1,a1.2) u1 (g1.now hC1.keep) ax1 v2 (h2.now hC1.keep) x1 hr1) fun w2 hB2=>have hC2:=hC1.grow hB2;Cr z z z<|Af z z<|Ab<|AK<|?_
 obtain rfl:=Aa hF
 exact AB z z<|⟨_,z,Bf hC2 _⟩
theorem c_Slices_Insert_Limpl_Fact_impl_Fact {Fs:List (List Nat)} {w0:World} (a1:(List (Int × (List Int)))) (u1:Value) (a2:Int) (a3:(List (Int × (List Int)))) (u2:Value) (hH:Hold [Ag u1 (a1:(List (Int × (List Int)))),Ag u2 (a3:(List (Int × (List Int))))] w0 Fs) (hn:Fs.flatten.Nodup) (rr:(List (Int × (List Int)))) (hF:Slices.Insert_Limpl_Fact_impl_Fact a1 a2 a3=some rr) :
 Calls Tryz.prog 74 [u1,(I a2),u2].toArray w0 fun e w'=>∃v,e=.returned v∧∃q0:Value,v=q0∧Ctx Fs.flatten w0 w' [Ag q0 (rr:(List (Int × (List Int))))]:=by
 refine A3 Tryz.func74 z z ?_
 have hC0:=B6 hH hn
 unfold Slices.Insert_Limpl_Fact_impl_Fact at hF
 obtain ⟨m,rfl,hm,hb1,hlim,rfl⟩:=ins_some hF
 have hsub:sub a1 (m:Int) (a1.length:Int)=some (a1.drop m):=by unfold sub; rw [if_pos (by omega)]; simp
 have hb1':(a3.length:Int)=1:=by omega
 have hlim':a1.length+1 ≤ 4294967296:=by rw [LIM_eq] at hlim; exact hlim
 have hw1:w64 ((a1.length:Int)+1)=((a1.length+1:Nat):Int):=by rw [w64_id (by omega) (by omega)]; omega
 have hw2:w64 (((a1.length+1:Nat):Int) - (m:Int))=((a1.length+1 - m:Nat):Int):=by rw [w64_id (by omega) (by omega)]; omega
 have hw3:w64 ((m:Int)+1)=((m+1:Nat):Int):=by rw [w64_id (by omega) (by omega)]; omega
 refine Ad<|Af z z<|Ab<|Ad<|Ae z z<|Ae z z<|WL_slice_l Ah ty29 (hC0.ro 0 z) hsub z z z fun v1 h1=>Ab<|Ad<|Ae z z<|Bo Ah (hC0.ro 1 z) z z<|?_
 rw [hb1']
 refine Af z z<|Ab<|AA<|Ad<|Ae z z<|BP z z z<|Ab<|C9 z<|AM<|Av<|Ad<|Ae z z<|Bo Ah (hC0.ro 0 z) z z<|Af z z<|Ab<|AA<|Ad<|Ae z z<|Ae z z<|BP z z z<|?_
 by_cases hi:m=a1.length
 ·have e1:a1.take m ++ a3 ++ a1.drop m=a1 ++ a3:=by rw [List.take_of_length_le (by omega),List.drop_of_length_le (by omega),List.append_nil]
  rw [e1,decide_eq_true (show (m:Int)=(a1.length:Int) by omega)]
  refine Ab<|C8 z<|Ad<|Ae z z<|Ae z z<|?_
  have happ:app a1 a3=some (a1 ++ a3):=by unfold app; rw [if_pos (by omega)]
  exact BA hC0.swap 0 z Ah ty29 z happ z z z fun v2 w2 hC2=>Af z z<|Ab<|AK<|A2<|AB z z<|⟨_,z,_,z,hC2⟩
 rw [decide_eq_false (show ¬ (m:Int)=(a1.length:Int) by omega)]
 refine Ab<|C9 z<|AM<|Av<|?_
 have hml:m < a1.length:=by omega
 obtain ⟨b,c,row,T,cells,Fe,vb,vc,vrow,vT,vcells,Ge,rfl,rfl,h4,g4,h5,g5,h6,g6,h8,g8,h10,h11,h12,h13,h14,h15,hK⟩:=hC0.ins_raw (by intro e; rw [e] at hml; simp at hml) (by intro e; rw [e] at hb1; simp at hb1)
 have hcl:=elems_len h5
 have hvl:=elems_len g5
 rw [hb1] at hvl
 have hyl:(cells.drop (m * Rep.sz (Int × (List Int)))).length=(a1.length - m) * Rep.sz (Int × (List Int)):=by rw [List.length_drop,hcl,Nat.sub_mul]
 have hvr:(vrow.toList.drop 0).take (1 * Rep.sz (Int × (List Int)))=vcells:=by rw [List.drop_zero,← g6,hb1]
 have hv1:=elems_one g5
 have hy1:∀ u ∈ cells.drop (m * Rep.sz (Int × (List Int))),u.oneCell'=true:=fun u hu=>elems_one h5 u (List.mem_of_mem_drop hu)
 refine AA<|Ad<|Ae z z<|Ae z z<|Bw z z z<|?_
 rw [hw1]
 refine Ae z z<|WL_cap Ah z z<|Cr z z z<|?_
 by_cases hr:c < a1.length+1
 ·rw [decide_eq_true (show (c:Int) < ((a1.length+1:Nat):Int) by omega)]
  refine Ab<|C8 z<|Ad<|Ae z z<|Ae z z<|WL_sl_h Ah ty29 (show m ≤ c by omega) (by omega) z z z<|Ae z z<|Ae z z<|Bw z z z<|?_
  rw [hw1]
  refine Ae z z<|BV z z z<|?_
  rw [hw2]
  refine WL_zeros Ah ty29 z Cy h4 (take_cells h6 hm) (by rw [List.length_take,hcl,Nat.min_eq_left (Nat.mul_le_mul_right _ hm)]) (show 0 < a1.length+1 - m by omega) (by omega) (by rw [LIM_eq]; omega) z z z (fun c' row' k1 k2 k3 k4=>?_)
  rw [show m+(a1.length+1 - m)=a1.length+1 by omega] at k3 ⊢
  obtain ⟨q1,q2,q3⟩:=row_grow (row':=row') hm hcl hvl k1 k2 k3
  obtain ⟨w1,hw1e⟩:∃w1,w1=w0.drew.alloc (.cells row' 29):=⟨_,z⟩
  have hA1:w1.heap[w0.heap.size]?=some (.cells row' 29 (0,0)):=by rw [hw1e]; exact heap_alloc_new w0.drew _
  have hB1:Below w0.heap.size w0 w1:=by rw [hw1e]; exact below_new w0 _
  rw [← hw1e]
  refine Af z z<|Ab<|Ad<|Ae z z<|Ae z z<|CD Ah ty29 (show m < c' by omega) (show m ≤ a1.length+1 by omega) k3 z z z<|Ae z z<|WL_copy (m:=1) Ah ty29 hA1 ((hB1.block vb (heap_lt g4)).trans g4) (by show Nat.min a3.length (a1.length+1 - m)=1; rw [hb1]; exact Nat.min_eq_left (by omega)) hvr hvl hv1 (by rw [hvl,k2,Nat.zero_add,← Nat.add_mul]; exact Nat.mul_le_mul_right _ (by omega)) z z z<|?_
  generalize hr1:(row'.toList.take (0+m * Rep.sz (Int × (List Int))) ++ vcells ++ row'.toList.drop (0+m * Rep.sz (Int × (List Int))+vcells.length)).toArray=r1 at q1 q2 q3 ⊢
  have hA2:(w1.setRow w0.heap.size r1).heap[w0.heap.size]?=some (.cells r1 29 (0,0)):=setRow_heap _ _ _ _ _ _ hA1
  have hB2:Below w0.heap.size w0 (w1.setRow w0.heap.size r1):=below_row hB1 (Nat.le_refl _)
  refine Ab<|AA<|W_drawn 9 z hmix fun w3 hB3=>tk 0 z z (C5 z)<|Ae z z<|Ab<|tk 1 z z (C5 z)<|Ae z z<|Ab<|tk 2 z z (C5 z)<|Ae z z<|Ab<|tk 3 z z (fl_add z z)<|Bw z z z<|?_
  rw [hw3]
  refine Ab<|tk 4 z z (fl_sl_l Ah ty29 (show m+1 < c' by omega) (show m+1 ≤ a1.length+1 by omega) k3 z z)<|CD Ah ty29 (show m+1 < c' by omega) (show m+1 ≤ a1.length+1 by omega) k3 z z z<|Ab<|tk 5 z z (C5 z)<|Ae z z<|Ab<|tk 6 z z (C5 z)<|Ae z z<|Ab<|tk 7 z z (fl_sl_l Ah ty29 (show m < c by omega) hm h10 z z)<|CD Ah ty29 (show m < c by omega) hm h10 z z z<|Ab<|?_
  have hA3:w3.heap[w0.heap.size]?=some (.cells r1 29 (0,0)):=(hB3.block _ (heap_lt hA2)).trans hA2
  have hB30:Below w0.heap.size w0 w3:=hB2.trans ⟨hB3.os,hB3.tape,hB3.output,hB3.size,fun k hk=>hB3.block k (Nat.lt_of_lt_of_le hk hB2.size)⟩
  refine oe 8 z<|WL_copy (m:=a1.length - m) Ah ty29 hA3 ((hB30.block b (heap_lt h4)).trans h4) (by show Nat.min (a1.length - m) (a1.length+1 - (m+1))=a1.length - m; rw [show a1.length+1 - (m+1)=a1.length - m by omega]; exact Nat.min_self _) (drop_cells h6) hyl hy1 (by rw [hyl,q3,Nat.zero_add,← Nat.add_mul]; exact Nat.mul_le_mul_right _ (by omega)) z z z<|?_
  generalize hr2:(r1.toList.take (0+(m+1) * Rep.sz (Int × (List Int))) ++ cells.drop (m * Rep.sz (Int × (List Int))) ++ r1.toList.drop (0+(m+1) * Rep.sz (Int × (List Int))+(cells.drop (m * Rep.sz (Int × (List Int)))).length)).toArray=r2 at q1 q2 ⊢
  refine Ab<|dn<|Av<|Ad<|Ae z z<|Af z z<|Ab<|AK<|A2<|AB z z<|?_
  have hB4:Below w0.heap.size w0 (w3.setRow w0.heap.size r2):=below_row hB30 (Nat.le_refl _)
  have hin:∀ k ∈ Fe ++ Ge,k < w0.heap.size:=fun k hk=>(List.mem_append.1 hk).elim (elems_inh h5 k) (elems_inh g5 k)
  obtain ⟨F',e1,e2,e3⟩:=ins_val (w':=w3.setRow w0.heap.size r2) h5 g5 h14 hm hb1 (g:=w0.heap.size) (fun h=>absurd (hin _ h) (Nat.lt_irrefl _)) (setRow_heap _ _ _ _ _ _ hA3) (fun k hk=>hB4.block k (hin k hk)) q1 q2 k3 k4
  exact ⟨_,z,_,z,hK _ _ _ F' ⟨hB4.os,hB4.tape,hB4.output,hB4.size,fun k hk _=>hB4.block k hk⟩ e1 e2 (fun k hk=>(e3 k hk).elim (fun h=>.inr (.inr (Nat.le_of_eq h.symm))) (fun h=>.inr (.inl h)))⟩
 rw [decide_eq_false (show ¬ (c:Int) < ((a1.length+1:Nat):Int) by omega)]
 refine Ab<|C9 z<|AM<|Av<|?_
 have k3:a1.length+1 ≤ c:=by omega
 obtain ⟨q1,q2,q3⟩:=row_shift hm hcl hvl h6 h8 k3
 refine Ad<|Ae z z<|Ae z z<|Ae z z<|Bw z z z<|?_
 rw [hw1]
 refine WL_sl_h Ah ty29 k3 (by omega) z z z<|Af z z<|Ab<|AA<|Ad<|Ae z z<|Ae z z<|Ae z z<|Ae z z<|Bw z z z<|?_
 rw [hw3]
 refine CD Ah ty29 (show m+1 < c by omega) (show m+1 ≤ a1.length+1 by omega) k3 z z z<|WL_apart (R:=4) (run_callFunc_extern Tryz.func96 (by kernel_rfl) (by kernel_rfl) (by kernel_rfl) (by kernel_rfl)) Ah ty29 h13 h4 g4 (by rw [h8]; exact Nat.ne_of_gt (Nat.mul_pos (by omega) (by decide))) z z z<|B2 z z<|Ab<|C8 z<|AA<|W_drawn 9 z hmix fun w3 hB3=>tk 0 z z (C5 z)<|Ae z z<|Ab<|tk 1 z z (C5 z)<|Ae z z<|Ab<|tk 2 z z (C5 z)<|Ae z z<|Ab<|tk 3 z z (fl_add z z)<|Bw z z z<|?_
 rw [hw3]
 refine Ab<|tk 4 z z (fl_sl_l Ah ty29 (show m+1 < c by omega) (show m+1 ≤ a1.length+1 by omega) k3 z z)<|CD Ah ty29 (show m+1 < c by omega) (show m+1 ≤ a1.length+1 by omega) k3 z z z<|Ab<|tk 5 z z (C5 z)<|Ae z z<|Ab<|tk 6 z z (C5 z)<|Ae z z<|Ab<|tk 7 z z (fl_sl_l Ah ty29 (show m < c by omega) (show m ≤ a1.length+1 by omega) k3 z z)<|CD Ah ty29 (show m < c by omega) (show m ≤ a1.length+1 by omega) k3 z z z<|Ab<|?_
 have hA3:w3.heap[b]?=some (.cells row T (0,0)):=(hB3.block _ (heap_lt h4)).trans h4
 refine oe 8 z<|WL_copy (m:=a1.length - m) Ah ty29 hA3 hA3 (by show Nat.min (a1.length+1 - m) (a1.length+1 - (m+1))=a1.length - m; rw [show a1.length+1 - (m+1)=a1.length - m by omega]; exact Nat.min_eq_right (by omega)) (drop_cells h6) hyl hy1 (by rw [hyl,h8,Nat.zero_add,← Nat.add_mul]; exact Nat.mul_le_mul_right _ (by omega)) z z z<|?_
 generalize hr1:(row.toList.take (0+(m+1) * Rep.sz (Int × (List Int))) ++ cells.drop (m * Rep.sz (Int × (List Int))) ++ row.toList.drop (0+(m+1) * Rep.sz (Int × (List Int))+(cells.drop (m * Rep.sz (Int × (List Int)))).length)).toArray=r1 at q1 q2 q3 ⊢
 have hA4:(w3.setRow b r1).heap[b]?=some (.cells r1 T (0,0)):=setRow_heap _ _ _ _ _ _ hA3
 have g43:(w3.setRow b r1).heap[vb]?=some (.cells vrow vT (0,0)):=(setRow_other _ _ _ _ h13).trans ((hB3.block _ (heap_lt g4)).trans g4)
 refine Ab<|dn<|Av<|Ad<|Ae z z<|Ae z z<|CD Ah ty29 (show m < c by omega) (show m ≤ a1.length+1 by omega) k3 z z z<|Ae z z<|WL_copy (m:=1) Ah ty29 hA4 g43 (by show Nat.min a3.length (a1.length+1 - m)=1; rw [hb1]; exact Nat.min_eq_left (by omega)) hvr hvl hv1 (by rw [hvl,q3,Nat.zero_add,← Nat.add_mul]; exact Nat.mul_le_mul_right _ (by omega)) z z z<|?_
 generalize hr2:(r1.toList.take (0+m * Rep.sz (Int × (List Int))) ++ vcells ++ r1.toList.drop (0+m * Rep.sz (Int × (List Int))+vcells.length)).toArray=r2 at q1 q2 ⊢
 refine Ab<|Ad<|Ae z z<|Af z z<|Ab<|AK<|A2<|AB z z<|?_
 have hK4:Keep [b] w0 ((w3.setRow b r1).setRow b r2):=Keep.row (Keep.row ⟨hB3.os,hB3.tape,hB3.output,hB3.size,fun k hk _=>hB3.block k hk⟩)
 have hin:∀ k ∈ Fe ++ Ge,k < w0.heap.size:=fun k hk=>(List.mem_append.1 hk).elim (elems_inh h5 k) (elems_inh g5 k)
 obtain ⟨F',e1,e2,e3⟩:=ins_val (w':=(w3.setRow b r1).setRow b r2) h5 g5 h14 hm hb1 (g:=b) h15 (setRow_heap _ _ _ _ _ _ hA4) (fun k hk=>hK4.block k (hin k hk) (by simp only [List.mem_singleton]; intro e; exact h15 (e ▸ hk))) q1 q2 k3 h11
 exact ⟨_,z,_,z,hK _ _ _ F' hK4 e1 e2 (fun k hk=>(e3 k hk).elim .inl (fun h=>.inr (.inl h)))⟩
theorem c_Slices_IndexFunc_Limpl_Fact_impl_Fact_M_added_c1 {w0:World} (a1:(List (Int × (List Int)))) (u1:Value) (g1:RO [] w0 u1 a1) (pb1:Nat) (ax1:(Int × (List Int))) (g2:ROAt [] w0 pb1 0 ax1) (rr:Int) (hF:Slices.IndexFunc_Limpl_Fact_impl_Fact_M_added_c1 a1 ax1=some rr) :
 Calls Tryz.prog 72 [u1,(.func (.func 73) #[] #[(ptr pb1 0)])].toArray w0 fun e w'=>∃v,e=.returned v∧Res w0 rr v w':=by
 refine A3 CK z z ?_
 have hC0:=AH w0
 unfold Slices.IndexFunc_Limpl_Fact_impl_Fact_M_added_c1 at hF
 refine Ad<|Af z z<|Ab<|AA<|Ad<|Ae z z<|Bo Ah g1 z z<|Ae z z<|Ab<|be hF fun r1 hr1 hF=>Bx (fun l w=>.inl ()=r1∧l=[]∧Below w0.heap.size w0 w∧Ctx [] w0 w []) ?_ ?_
 ·refine Bb<|wS (l':=[(0,u1),(1,(.func (.func 73) #[] #[(ptr pb1 0)])),(7,(I (List.length a1:Int))),(8,(I 0))]) ⟨z,z,z,z,Ak⟩<|BE (fun k l w=>∃x1:Int,l=[(0,u1),(1,(.func (.func 73) #[] #[(ptr pb1 0)])),(7,(I (List.length a1:Int))),(8,(I x1))]∧Below w0.heap.size w0 w∧Ctx [] w0 w []∧Slices.IndexFunc_Limpl_Fact_impl_Fact_M_added_c1_l1 a1 ax1 k x1=some r1) FUEL ⟨0,z,(An _ _),hC0,hr1⟩<|?_
  clear hr1
  rintro k1 _ w1 ⟨x1,rfl,hB1,hC1,hL1⟩
  cases k1 with
  | zero=>rw [Slices.IndexFunc_Limpl_Fact_impl_Fact_M_added_c1_l1] at hL1; cases hL1
  | succ k1 =>
   rw [Slices.IndexFunc_Limpl_Fact_impl_Fact_M_added_c1_l1] at hL1
   refine Ad<|B8 z z z<|Ab<|AA<|AL z (fun hc1=>?_) (fun hc1=>?_)
   ·replace hL1:=AD hL1 hc1
    refine AM<|Av<|AA<|Bb<|Ad<|Ae z z<|Af z z<|Ab<|Ad<|Ae z z<|Ae z z<|Ae z z<|be hL1 fun x2 hx1 hL1=>AZ Ah ty29 g1 hx1 z z z fun b1 o1 h1=>Be ty29 h1 hC1.keep z z fun v1 h2=>?_
    obtain ⟨v2,rfl,h3⟩:=BM h2
    refine be hL1 fun x3 hr2 hL1=>Cw (cap:=[(ptr pb1 0)]) Tryz.call73 z z z (c_M_added_c1 x2 v2 (h3.now hC1.keep) pb1 ax1 (g2.now hC1.keep) x3 hr2) fun _ w2 hv1=>?_
    obtain ⟨rfl,hB2⟩:=Cx hv1
    have hC2:=hC1.grow hB2
    refine Ab<|AL z (fun hc2=>?_) (fun hc2=>?_)
    ·replace hL1:=AD hL1 hc2
     refine Ad<|Ae z z<|Af z z<|Ab<|AK<|Bu<|A2<|A2<|Bu<|A2<|A2<|?_
     obtain rfl:=Aa hL1
     dsimp only at hF
     obtain rfl:=Aa hF
     exact AB z z<|⟨_,z,B7 hC2 _⟩
    replace hL1:=AE hL1 hc2
    exact AM<|Bg<|Av<|Bt<|Bw z z z<|Ae z z<|Ab<|Ay (l':=[(0,u1),(1,(.func (.func 73) #[] #[(ptr pb1 0)])),(7,(I (List.length a1:Int))),(8,(I (w64 (x1+1))))]) ⟨z,z,z,z,Ak⟩<|⟨k1,AO _,w64 (x1+1),z,((Al hB1).then hB2).below,hC2,hL1⟩
   replace hL1:=AE hL1 hc1
   refine BF (AW (AW (B4 ?_)))
   obtain rfl:=Aa hL1
   exact Ay (l':=[]) Ak<|⟨z,z,(Al hB1).below,hC1⟩
 rintro l2 _ w3 hs2 ⟨rfl,rfl,hB3,hC3⟩
 try dsimp only at hF
 refine Bm hs2 ?_
 clear hs2
 refine Ad<|Af z z<|Ab<|AK<|?_
 obtain rfl:=Aa hF
 exact AB z z<|⟨_,z,B7 hC3 _⟩
theorem c_M_added {w0:World} {Fs:List (List Nat)} (a1:(List (Int × (List Int)))) (u1:Value) (a2:(Int × (List Int))) (u2:Value) (g2:RO Fs.flatten w0 u2 a2.2) (hH:Hold [Ag u1 (a1:(List (Int × (List Int))))] w0 Fs) (hn:Fs.flatten.Nodup) (rr:(List (Int × (List Int)))) (hF:M.added a1 a2=some rr) :
 Calls Tryz.prog 35 [u1,(.agg #[(I a2.1),u2])].toArray w0 fun e w'=>∃v,e=.returned v∧∃q0:Value,v=q0∧Ctx Fs.flatten w0 w' [Ag q0 (rr:(List (Int × (List Int))))]:=by
 refine A3 Tryz.func35 z z ?_
 have hC0:=B6 hH hn
 unfold M.added at hF
 refine Ad<|Bz (cs:=[(I a2.1),u2]) hC0 z z z fun b1 w1 hC1 hB1 hN1=>Af z z<|Ab<|AA<|Ad<|Ae z z<|At [(I a2.1),u2] hC1 0 z z z By AQ z z<|be hF fun x1 hr1 hF=>cb Tryz.call33 z z (c_M_HasFact a1 u1 ((hC1.ro 1 z).now (B5 _ _)) (a2.1,a2.2) u2 (g2.now hC1.keep) x1 hr1) fun w2 hB2=>have hC2:=hC1.grow hB2;Ab<|AL z (fun hc1=>?_) (fun hc1=>?_)
 ·replace hF:=AD hF hc1
  refine Ad<|Ae z z<|Af z z<|Ab<|AK<|A2<|?_
  obtain rfl:=Aa hF
  exact AB z z<|have hC3:=hC2.f1;have hC4:=hC3.h1;⟨_,z,_,z,hC4⟩
 replace hF:=AE hF hc1
 refine AM<|Av<|Ad<|Ae z z<|C3 z z<|be hF fun x2 hr2 hF=>ci CL z z (c_Slices_IndexFunc_Limpl_Fact_impl_Fact_M_added_c1 a1 u1 ((hC2.ro 1 z).now (B5 _ _)) b1 (a2.1,a2.2) (hC2.boxAt 0 z (repw_pair repw_int (repw_slice (g2.now hC2.keep)))) x2 hr2) fun w3 hB3=>have hC5:=hC2.grow hB3;Af z z<|Ab<|AA<|Ad<|Ae z z<|B8 z z z<|Ab<|be hF fun r1 hr3 hF=>Bx (fun l w=>∃x3:Int,x3=r1∧l=[(0,u1),(3,(ptr b1 0)),(5,(I x3))]∧Below w3.heap.size w3 w∧Ctx Fs.flatten w0 w [Ac b1 [(I a2.1),u2],Ag u1 (a1:(List (Int × (List Int))))]) ?_ ?_
 ·refine AL z (fun hc2=>?_) (fun hc2=>?_)
  ·replace hr3:=AD hr3 hc2
   refine Bt<|Ae z z<|Bo Ah (hC5.ro 1 z) z z<|Af z z<|Ab<|?_
   obtain rfl:=Aa hr3
   exact Ay (l':=[(0,u1),(3,(ptr b1 0)),(5,(I (List.length a1:Int)))]) ⟨z,z,z,Ak⟩<|⟨(List.length a1:Int),z,z,(An _ _),hC5⟩
  replace hr3:=AE hr3 hc2
  refine AM ?_
  obtain rfl:=Aa hr3
  exact Ay (l':=[(0,u1),(3,(ptr b1 0)),(5,(I x2))]) ⟨z,z,z,Ak⟩<|⟨x2,z,z,(An _ _),hC5⟩
 rintro l1 _ w4 hs1 ⟨x3,rfl,rfl,hB4,hC6⟩
 try dsimp only at hF
 refine Bm hs1 ?_
 clear hs1
 refine Ad<|Ae z z<|Ae z z<|At [(I a2.1),u2] hC6 0 z z z By AQ z z<|be hF fun x4 hr4 hF=>AJ Tryz.call75 z z (c_M_copyFact (a2.1,a2.2) u2 (g2.now hC6.keep) x4 hr4)<|?_
 rintro v1 w5 ⟨hB5,F1,hv3,hn1,hb1⟩
 have hC7:=hC6.push hB5 (A:=Ag v1 x4) hv3 hn1 hb1
 obtain ⟨v2,rfl,hC8⟩:=st29_own hC7
 refine AN (vs:=[(.agg #[(I x4.1),v2])]) hC8 Ah ty29 z z z z (fac z<|fa0) z z (fun b2 w6 hC9 hB6=>?_)
 have hC10:=hC9.row0 (α:=(Int × (List Int)))
 have hC12:=hC10.f2
 have hC11:=Cj x4.1 v2 x4.2 hC12
 have hC13:=hC11.row1
 have hC14:=hC13.front 1 z
 dsimp only [List.eraseIdx,List.cons_append,List.nil_append,List.append_nil] at hC14
 have hC15:Ctx Fs.flatten w0 w6 (Ag (.slice (some ⟨b2,0,none⟩) 1 1) ([(x4.1,x4.2)]:List (Int × (List Int)))::[Ac b1 [(I a2.1),u2],Ag u1 (a1:(List (Int × (List Int))))]):=hC14.rowOwn (by simp [maxLen])
 refine be hF fun x5 hr5 hF=>have hC17:=hC15.f2;?_
 obtain ⟨Fs1,hH1,hn2,hF1,hO1,hb2⟩:=AS (As:=[Ac b1 [(I a2.1),u2]]) [Ag u1 (a1:(List (Int × (List Int)))),Ag (.slice (some ⟨b2,0,none⟩) 1 1) ([(x4.1,x4.2)]:(List (Int × (List Int))))] hC17
 refine AJ Tryz.call74 z z (c_Slices_Insert_Limpl_Fact_impl_Fact a1 u1 x3 ([(x4.1,x4.2)]) (.slice (some ⟨b2,0,none⟩) 1 1) hH1 hn2 x5 hr5) ?_
 rintro v3 w7 ⟨_,rfl,hq4⟩
 have hC18:Ctx Fs.flatten w0 w7 [Ag v3 (x5:(List (Int × (List Int)))),Ac b1 [(I a2.1),u2]]:=hb2 _ _ hq4
 refine Af z z<|Ab<|AK<|?_
 obtain rfl:=Aa hF
 exact AB z z<|have hC20:=hC18.h1;⟨_,z,_,z,hC20⟩
theorem c_M_ApplyChange_c1 {w0:World} (a1:(Int × (List Int))) (u1:Value) (g1:RO [] w0 u1 a1.2) (pb1:Nat) (ax1:(Bool × (Int × (List Int)))) (g2:ROAt [] w0 pb1 0 ax1) (rr:Bool) (hF:M.ApplyChange_c1 a1 ax1=some rr) :
 Calls Tryz.prog 37 [(.agg #[(I a1.1),u1]),(ptr pb1 0)].toArray w0 fun e w'=>∃v,e=.returned v∧Res w0 rr v w':=by
 refine A3 Tryz.func37 z z ?_
 have hC0:=AH w0
 unfold M.ApplyChange_c1 at hF
 refine Ad<|Bz (cs:=[(I a1.1),u1]) hC0 z z z fun b1 w1 hC1 hB1 hN1=>Af z z<|Ab<|Ad<|At [(I a1.1),u1] hC1 0 z z z By AQ z z<|fd B1 AQ z z z z<|Be ty29 g2.snd hC1.keep z z fun v1 h1=>?_
 obtain ⟨v2,rfl,h2⟩:=BM h1
 refine be hF fun x1 hr1 hF=>ci CJ z z (c_M_CompareFacts (a1.1,a1.2) u1 (g1.now hC1.keep) ax1.2 v2 (h2.now hC1.keep) x1 hr1) fun w2 hB2=>have hC2:=hC1.grow hB2;BP z z z<|Af z z<|Ab<|AK<|?_
 obtain rfl:=Aa hF
 exact AB z z<|⟨_,z,Bf hC2 _⟩
end Go.Gx.Px
