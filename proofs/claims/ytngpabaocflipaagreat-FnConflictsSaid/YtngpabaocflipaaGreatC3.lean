/- The contracts of the Go functions against the pure functions, printed by program. Conditions: each says them. -/
import Derived.Test.YtngpabaocflipaaGreatC2
set_option linter.unusedVariables false
set_option linter.unusedSimpArgs false
set_option maxRecDepth 100000
set_option maxHeartbeats 4000000
namespace Go.Gx.Px
open Go.Proofs Go.RowKit
open K9
theorem c_S_l28List {w0:World} {Fs:List (List Nat)} (pb1:Nat) (a1:((List UInt8) × Int × Int)) (u1:Value) (g1:RO Fs.flatten w0 u1 a1.1) (hH:Hold [Ag pb1 [u1,(I a1.2.1),(I a1.2.2)]] w0 Fs) (hn:Fs.flatten.Nodup) (rr:((List Int) × (List (Int × (List Int) × Int × Int × Int)) × (List (Int × (List Int))) × (List ((Int × (List Int)) × (List (Int × (List Int))))) × ((List UInt8) × Int × Int))) (hF:S.l28List a1=some rr) :
 Calls Tryz.prog 64 [(ptr pb1 0)].toArray w0 fun e w'=>∃v,e=.returned v∧∃q0:Value,∃q1:Value,∃q2:Value,∃q3:Value,v=(.tuple #[q0,q1,q2,q3])∧Ctx Fs.flatten w0 w' [Af q0 (rr.1:(List Int)),Af q1 (rr.2.1:(List (Int × (List Int) × Int × Int × Int))),Af q2 (rr.2.2.1:(List (Int × (List Int)))),Af q3 (rr.2.2.2.1:(List ((Int × (List Int)) × (List (Int × (List Int)))))),Ag pb1 [u1,(I rr.2.2.2.2.2.1),(I rr.2.2.2.2.2.2)]]:=by
 refine Ax Tryz.func64 z z ?_
 have hC0:=BE hH hn
 unfold S.l28List at hF
 refine Ac<|Ad z z<|Ad z z<|Ad z z<|Ad z z<|Ab<|Ac<|Ae z z<|be hF fun x1 hr1 hF=>?_
 obtain ⟨Fs1,hH1,hn1,hF1,hO1,hb1⟩:=AX (As:=[]) [Ag pb1 [u1,(I a1.2.1),(I a1.2.2)]] hC0
 refine AG Tryz.call119 z z (c_S_l5Draw pb1 (a1.1,a1.2.1,a1.2.2) u1 (Bf g1 hC0.keep hF1) hH1 hn1 x1 hr1) ?_
 rintro _ w1 ⟨v1,v2,v3,rfl,hq1⟩
 have hC1:Ctx Fs.flatten w0 w1 [Af v1 (x1.1:(List Int)),Af v2 (x1.2.1:(List (Int × (List Int) × Int × Int × Int))),Af v3 (x1.2.2.1:(List (Int × (List Int)))),Ag pb1 [u1,(I x1.2.2.2.2.1),(I x1.2.2.2.2.2)]]:=hb1 _ _ hq1
 refine Ae z z<|Bh z z z<|Bh z z z<|Bh z z z<|Ad z z<|Ad z z<|Ad z z<|Ab<|Ac<|AC (vs:=[]) hC1 A0 ty46 z z z z (by simp) z z fun b1 w2 hC2 hB1=>?_
 have hC3:=hC2.row0 (α:=((Int × (List Int)) × (List (Int × (List Int)))))
 have hC4:=hC3.front 1 z
 dsimp only [List.eraseIdx,List.cons_append,List.nil_append,List.append_nil] at hC4
 have hC5:Ctx Fs.flatten w0 w2 (Af (.slice (some ⟨b1,0,none⟩) 0 0) (([]:List ((Int × (List Int)) × (List (Int × (List Int))))):List ((Int × (List Int)) × (List (Int × (List Int)))))::[Af v1 (x1.1:(List Int)),Af v2 (x1.2.1:(List (Int × (List Int) × Int × Int × Int))),Af v3 (x1.2.2.1:(List (Int × (List Int)))),Ag pb1 [u1,(I x1.2.2.2.2.1),(I x1.2.2.2.2.2)]]):=hC4.rowOwn (by simp [maxLen])
 refine Ad z z<|Ab<|A6<|Ac<|Ae z z<|be hF fun x2 hr2 hF=>have hC6:=hC5.f4;?_
 obtain ⟨Fs2,hH2,hn2,hF2,hO2,hb2⟩:=AX (As:=[Af (.slice (some ⟨b1,0,none⟩) 0 0) (([]:List ((Int × (List Int)) × (List (Int × (List Int))))):(List ((Int × (List Int)) × (List (Int × (List Int)))))),Af v1 (x1.1:(List Int)),Af v2 (x1.2.1:(List (Int × (List Int) × Int × Int × Int))),Af v3 (x1.2.2.1:(List (Int × (List Int))))]) [Ag pb1 [u1,(I x1.2.2.2.2.1),(I x1.2.2.2.2.2)]] hC6
 refine AG Bo z z (c_S_l1Below pb1 (a1.1,x1.2.2.2.2.1,x1.2.2.2.2.2) u1 (Bf g1 hC6.keep hF2) 5 hH2 hn2 x2 hr2) ?_
 rintro _ w3 ⟨rfl,hq2⟩
 have hC7:Ctx Fs.flatten w0 w3 [Ag pb1 [u1,(I x2.2.2.1),(I x2.2.2.2)],Af (.slice (some ⟨b1,0,none⟩) 0 0) (([]:List ((Int × (List Int)) × (List (Int × (List Int))))):(List ((Int × (List Int)) × (List (Int × (List Int)))))),Af v1 (x1.1:(List Int)),Af v2 (x1.2.1:(List (Int × (List Int) × Int × Int × Int))),Af v3 (x1.2.2.1:(List (Int × (List Int))))]:=hb2 _ _ hq2
 refine Ad z z<|Ab<|be hF fun r1 hr3 hF=>Bi (fun l w=>∃x7:Int,∃x8:Int,∃v5:Value,∃x9:(List ((Int × (List Int)) × (List (Int × (List Int))))),(x7,x8,x9)=r1∧l=[(0,(ptr pb1 0)),(6,v1),(7,v2),(8,v3),(9,v5)]∧Ctx Fs.flatten w0 w [Ag pb1 [u1,(I x7),(I x8)],Af v5 (x9:(List ((Int × (List Int)) × (List (Int × (List Int)))))),Af v1 (x1.1:(List Int)),Af v2 (x1.2.1:(List (Int × (List Int) × Int × Int × Int))),Af v3 (x1.2.2.1:(List (Int × (List Int))))]) ?_ ?_
 ·refine AJ<|wS (l':=[(0,(ptr pb1 0)),(6,v1),(7,v2),(8,v3),(9,(.slice (some ⟨b1,0,none⟩) 0 0)),(10,(I x2.1))]) ⟨z,z,z,z,z,z,Aj⟩<|B2 (fun k l w=>∃x3:Int,∃x4:Int,∃v4:Value,∃x5:(List ((Int × (List Int)) × (List (Int × (List Int))))),∃x6:Int,l=[(0,(ptr pb1 0)),(6,v1),(7,v2),(8,v3),(9,v4),(10,(I x6))]∧Ctx Fs.flatten w0 w [Ag pb1 [u1,(I x3),(I x4)],Af v4 (x5:(List ((Int × (List Int)) × (List (Int × (List Int)))))),Af v1 (x1.1:(List Int)),Af v2 (x1.2.1:(List (Int × (List Int) × Int × Int × Int))),Af v3 (x1.2.2.1:(List (Int × (List Int))))]∧S.l28List_l1 x1 a1 k x3 x4 x5 x6=some r1) FUEL ⟨x2.2.2.1,x2.2.2.2,(.slice (some ⟨b1,0,none⟩) 0 0),([]:List ((Int × (List Int)) × (List (Int × (List Int))))),x2.1,z,hC7,hr3⟩<|?_
  clear hr3
  rintro k1 _ w4 ⟨x3,x4,v4,x5,x6,rfl,hC8,hL1⟩
  cases k1 with
  | zero=>rw [S.l28List_l1] at hL1; cases hL1
  | succ k1 =>
   rw [S.l28List_l1] at hL1
   refine A6<|be hL1 fun r2 hr4 hL1=>BI (fun l w=>∃x10:Bool,x10=r2∧l=[(0,(ptr pb1 0)),(6,v1),(7,v2),(8,v3),(9,v4),(10,(I x6)),(28,(.bool x10))]∧Below w4.heap.size w4 w∧Ctx Fs.flatten w0 w [Ag pb1 [u1,(I x3),(I x4)],Af v4 (x5:(List ((Int × (List Int)) × (List (Int × (List Int)))))),Af v1 (x1.1:(List Int)),Af v2 (x1.2.1:(List (Int × (List Int) × Int × Int × Int))),Af v3 (x1.2.2.1:(List (Int × (List Int))))]) ?_ ?_
   ·refine Bg<|Ae z z<|Ca z z z<|Ae z z<|Bz (fun hc1=>?_) (fun hc1=>?_)
    ·replace hr4:=A7 hr4 hc1
     refine Ah z z<|Ae z z<|Ah z z<|Ae z z<|be hr4 fun x11 hr5 hr4=>Ah z z<|cb Cw z z (c_S_AreMethods x1.1 v1 ((hC8.ro 2 z).now (A1 _ _)) x1.2.1 v2 ((hC8.ro 3 z).now (A1 _ _)) x11 hr5) fun w6 hB4=>have hC10:=hC8.grow hB4;AW z z z<|Ab<|?_
     obtain rfl:=Aa hr4
     exact Am (l':=[(0,(ptr pb1 0)),(6,v1),(7,v2),(8,v3),(9,v4),(10,(I x6)),(28,(.bool x11))]) ⟨z,z,z,z,z,z,z,Aj⟩<|⟨x11,z,z,(Ao hB4).below,hC10⟩
    replace hr4:=A8 hr4 hc1
    refine gs z z z z<|gs z z z z<|gs z z z z<|AZ z z z<|Ab<|?_
    obtain rfl:=Aa hr4
    exact Am (l':=[(0,(ptr pb1 0)),(6,v1),(7,v2),(8,v3),(9,v4),(10,(I x6)),(28,(.bool false))]) ⟨z,z,z,z,z,z,z,Aj⟩<|⟨false,z,z,(Al _ _),hC8⟩
   rintro _ w5 ⟨x10,rfl,rfl,hB3,hC9⟩
   try dsimp only at hL1
   refine AE z (fun hc2=>?_) (fun hc2=>?_)
   ·replace hL1:=A7 hL1 hc2
    refine AF<|Ap<|A6<|AJ<|Ac<|Ae z z<|Ae z z<|be hL1 fun x12 hr6 hL1=>?_
    obtain ⟨Fs3,hH3,hn3,hF3,hO3,hb3⟩:=AX (As:=[Af v4 (x5:(List ((Int × (List Int)) × (List (Int × (List Int)))))),Af v1 (x1.1:(List Int)),Af v2 (x1.2.1:(List (Int × (List Int) × Int × Int × Int))),Af v3 (x1.2.2.1:(List (Int × (List Int))))]) [Ag pb1 [u1,(I x3),(I x4)]] hC9
    refine AG Tryz.call121 z z (c_S_l5Access pb1 (a1.1,x3,x4) u1 (Bf g1 hC9.keep hF3) x1.2.1 v2 (hO3 2 _ _ _ z) hH3 hn3 x12 hr6) ?_
    rintro v6 w7 ⟨_,rfl,hq5⟩
    have hC11:Ctx Fs.flatten w0 w7 [Af v6 (x12.1:(Int × (List Int))),Ag pb1 [u1,(I x12.2.2.1),(I x12.2.2.2)],Af v4 (x5:(List ((Int × (List Int)) × (List (Int × (List Int)))))),Af v1 (x1.1:(List Int)),Af v2 (x1.2.1:(List (Int × (List Int) × Int × Int × Int))),Af v3 (x1.2.2.1:(List (Int × (List Int))))]:=hb3 _ _ hq5
    obtain ⟨v7,rfl,hC12⟩:=st44_own hC11
    refine Bw hC12 zero44 z z fun b2 w9 hC13 hB5 hN1=>AA (cs':=[(I x12.1.1),v7]) (new:=[(I x12.1.1),v7]) hC13 0 z z (fac z<|fac (B0 (hC13.ro 1 z))<|fa0) z AV z z fun w10 hC14 hKp1=>?_
    try dsimp only [List.set] at hC14
    have hk1:=AO (Ao hB5) hN1 hKp1
    refine Ab<|Ac<|Ae z z<|Ad z z<|Ab<|A6<|be hL1 fun r3 hr7 hL1=>BI (fun l w=>∃x13:Int,∃x14:Int,∃x15:Bool,(x13,x14,x15)=r3∧l=[(0,(ptr pb1 0)),(6,v1),(7,v2),(8,v3),(9,v4),(10,(I x6)),(11,(ptr b2 0)),(12,v3),(41,(.bool x15))]∧Ctx Fs.flatten w0 w [Ag b2 [(I x12.1.1),v7],Af v7 (x12.1.2:(List Int)),Ag pb1 [u1,(I x13),(I x14)],Af v4 (x5:(List ((Int × (List Int)) × (List (Int × (List Int)))))),Af v1 (x1.1:(List Int)),Af v2 (x1.2.1:(List (Int × (List Int) × Int × Int × Int))),Af v3 (x1.2.2.1:(List (Int × (List Int))))]) ?_ ?_
    ·refine Bg<|Ae z z<|Bc Ai (hC14.ro 6 z) z z<|Ca z z z<|Ae z z<|Bz (fun hc3=>?_) (fun hc3=>?_)
     ·replace hr7:=A7 hr7 hc3
      refine Ah z z<|Ae z z<|be hr7 fun x16 hr8 hr7=>Ah z z<|have hC16:=hC14.f2;?_
      obtain ⟨Fs4,hH4,hn4,hF4,hO4,hb4⟩:=AX (As:=[Ag b2 [(I x12.1.1),v7],Af v7 (x12.1.2:(List Int)),Af v4 (x5:(List ((Int × (List Int)) × (List (Int × (List Int)))))),Af v1 (x1.1:(List Int)),Af v2 (x1.2.1:(List (Int × (List Int) × Int × Int × Int))),Af v3 (x1.2.2.1:(List (Int × (List Int))))]) [Ag pb1 [u1,(I x12.2.2.1),(I x12.2.2.2)]] hC16
      refine AG Co z z (c_S_l1Once pb1 (a1.1,x12.2.2.1,x12.2.2.2) u1 (Bf g1 hC16.keep hF4) 6 hH4 hn4 x16 hr8) ?_
      rintro _ w12 ⟨rfl,hq6⟩
      have hC17:Ctx Fs.flatten w0 w12 [Ag pb1 [u1,(I x16.2.2.1),(I x16.2.2.2)],Ag b2 [(I x12.1.1),v7],Af v7 (x12.1.2:(List Int)),Af v4 (x5:(List ((Int × (List Int)) × (List (Int × (List Int)))))),Af v1 (x1.1:(List Int)),Af v2 (x1.2.1:(List (Int × (List Int) × Int × Int × Int))),Af v3 (x1.2.2.1:(List (Int × (List Int))))]:=hb4 _ _ hq6
      refine AW z z z<|Ab<|?_
      obtain rfl:=Aa hr7
      have hC18:=hC17.f6
      have hC19:=hC18.f6
      have hC20:=hC19.f6
      have hC21:=hC20.f6
      have hC22:=hC21.f4
      have hC23:=hC22.f6
      have hC24:=hC23.f6
      exact Am (l':=[(0,(ptr pb1 0)),(6,v1),(7,v2),(8,v3),(9,v4),(10,(I x6)),(11,(ptr b2 0)),(12,v3),(41,(.bool x16.1))]) ⟨z,z,z,z,z,z,z,z,z,Aj⟩<|⟨x16.2.2.1,x16.2.2.2,x16.1,z,z,hC24⟩
     replace hr7:=A8 hr7 hc3
     refine gs z z z z<|gs z z z z<|AZ z z z<|Ab<|?_
     obtain rfl:=Aa hr7
     exact Am (l':=[(0,(ptr pb1 0)),(6,v1),(7,v2),(8,v3),(9,v4),(10,(I x6)),(11,(ptr b2 0)),(12,v3),(41,(.bool false))]) ⟨z,z,z,z,z,z,z,z,z,Aj⟩<|⟨x12.2.2.1,x12.2.2.2,false,z,z,hC14⟩
    rintro _ w11 ⟨x13,x14,x15,rfl,rfl,hC15⟩
    try dsimp only at hL1
    refine AE z (fun hc4=>?_) (fun hc4=>?_)
    ·replace hL1:=A7 hL1 hc4
     refine Bg<|Ae z z<|be hL1 fun x17 hx1 hL1=>WL_slice_lV Ai ty88 (hC15.ro 6 z) hx1 z z z fun v8 h1=>Ad z z<|Ab<|Ap<|be hL1 fun r4 hr9 hL1=>Bi (fun l w=>∃x18:Int,∃x19:Int,∃v9:Value,∃x20:(List ((Int × (List Int)) × (List (Int × (List Int))))),(x18,x19,x20)=r4∧l=[(0,(ptr pb1 0)),(6,v1),(7,v2),(8,v3),(9,v9),(10,(I x6))]∧Ctx Fs.flatten w0 w [Ag pb1 [u1,(I x18),(I x19)],Af v9 (x20:(List ((Int × (List Int)) × (List (Int × (List Int)))))),Af v1 (x1.1:(List Int)),Af v2 (x1.2.1:(List (Int × (List Int) × Int × Int × Int))),Af v3 (x1.2.2.1:(List (Int × (List Int))))]) ?_ ?_
     ·refine W_drawn 13 z hmix fun w14 hB8=>have hC26:=hC15.grow hB8;tm 0 z z z<|tm 2 z z z<|tm 3 z z z<|tm 4 z z z<|tm 6 z z z<|WA_all3 (i:=1) (j:=5) (m:=7) (by kernel_rfl) z z z ?_ ?_ ?_
      ·refine Au [(I x12.1.1),v7] hC26 0 z z z Bu AV z z<|Ab<|Cn (i:=5) (j:=7) (by kernel_rfl) z z ?_ ?_
       ·refine Au [(I x12.1.1),v7] hC26 0 z z z Bu AV z z<|Ab<|be hr9 fun x21 hr10 hr9=>oe 7 z<|have hC27:=hC26.f2;?_
        obtain ⟨Fs5,hH5,hn5,hF5,hO5,hb5⟩:=AX (As:=[Ag b2 [(I x12.1.1),v7],Af v7 (x12.1.2:(List Int)),Af v4 (x5:(List ((Int × (List Int)) × (List (Int × (List Int)))))),Af v1 (x1.1:(List Int)),Af v2 (x1.2.1:(List (Int × (List Int) × Int × Int × Int))),Af v3 (x1.2.2.1:(List (Int × (List Int))))]) [Ag pb1 [u1,(I x13),(I x14)]] hC27
        refine AG Bo z z (c_S_l1Below pb1 (a1.1,x13,x14) u1 (Bf g1 hC27.keep hF5) 3 hH5 hn5 x21 hr10) ?_
        rintro _ w15 ⟨rfl,hq9⟩
        have hC28:Ctx Fs.flatten w0 w15 [Ag pb1 [u1,(I x21.2.2.1),(I x21.2.2.2)],Ag b2 [(I x12.1.1),v7],Af v7 (x12.1.2:(List Int)),Af v4 (x5:(List ((Int × (List Int)) × (List (Int × (List Int)))))),Af v1 (x1.1:(List Int)),Af v2 (x1.2.1:(List (Int × (List Int) × Int × Int × Int))),Af v3 (x1.2.2.1:(List (Int × (List Int))))]:=hb5 _ _ hq9
        refine Ab<|be hr9 fun x22 hr11 hr9=>oe 8 z<|AG BN z z (c_S_RespondTo x1.1 v1 ((hC28.ro 4 z).now (A1 _ _)) x1.2.1 v2 ((hC28.ro 5 z).now (A1 _ _)) x17 v8 ((h1 (hC28.ro 6 z)).now (A1 _ _)) (x12.1.1,x12.1.2) v7 ((hC28.ro 2 z).now (A1 _ _)) x21.1 x22 hr11)<|?_
        rintro v10 w16 ⟨hB9,F1,hv2,hn6,hb6⟩
        have hC29:=hC28.push hB9 (A:=Af v10 x22) hv2 hn6 hb6
        refine Ab<|tk 9 z z (Cd (vs:=[(0,(.agg #[(I x12.1.1),v7])),(1,v10)]) z z (built46_0_1 z (B7 (hC29.ro 0 z))))<|BH (vs:=[(0,(.agg #[(I x12.1.1),v7])),(1,v10)]) z z z (built46_0_1 z (B7 (hC29.ro 0 z)))<|Ab<|oe 10 z<|AC (vs:=[(.agg #[(I x12.1.1),v7,v10])]) hC29 A0 ty46 z z z z (fac z<|fa0) z z fun b3 w17 hC30 hB10=>?_
        have hC31:=hC30.row0 (α:=((Int × (List Int)) × (List (Int × (List Int)))))
        have hC33:=hC31.f2
        have hC34:=hC33.f5
        have hC32:=BO x12.1.1 v7 x12.1.2 v10 x22 hC34
        have hC35:=hC32.row1
        have hC36:=hC35.front 1 z
        dsimp only [List.eraseIdx,List.cons_append,List.nil_append,List.append_nil] at hC36
        have hC37:Ctx Fs.flatten w0 w17 (Af (.slice (some ⟨b3,0,none⟩) 1 1) ([((x12.1.1,x12.1.2),x22)]:List ((Int × (List Int)) × (List (Int × (List Int)))))::[Ag pb1 [u1,(I x21.2.2.1),(I x21.2.2.2)],Ag b2 [(I x12.1.1),v7],Af v4 (x5:(List ((Int × (List Int)) × (List (Int × (List Int)))))),Af v1 (x1.1:(List Int)),Af v2 (x1.2.1:(List (Int × (List Int) × Int × Int × Int))),Af v3 (x1.2.2.1:(List (Int × (List Int))))]):=hC36.rowOwn (by simp [maxLen])
        refine Ab<|be hr9 fun x23 hx2 hr9=>oe 11 z<|By hC37 2 z A0 ty46 z hx2 z z z fun v11 w18 hC38=>?_
        try dsimp only [List.set] at hC38
        refine Ab<|ta 12 z z z<|dn<|?_
        obtain rfl:=Aa hr9
        have hC40:=hC38.f5
        have hC41:=hC40.f5
        have hC42:=hC41.f5
        have hC43:=hC42.f5
        have hC44:=hC43.f4
        have hC45:=hC44.h5
        exact Am (l':=[(0,(ptr pb1 0)),(6,v1),(7,v2),(8,v3),(9,v11),(10,(I x6))]) ⟨z,z,z,z,z,z,Aj⟩<|⟨x21.2.2.1,x21.2.2.2,v11,x23,z,z,hC45⟩
       refine be hr9 fun x21 hr10 hr9=>have hC27:=hC26.f2;?_
       obtain ⟨Fs5,hH5,hn5,hF5,hO5,hb5⟩:=AX (As:=[Ag b2 [(I x12.1.1),v7],Af v7 (x12.1.2:(List Int)),Af v4 (x5:(List ((Int × (List Int)) × (List (Int × (List Int)))))),Af v1 (x1.1:(List Int)),Af v2 (x1.2.1:(List (Int × (List Int) × Int × Int × Int))),Af v3 (x1.2.2.1:(List (Int × (List Int))))]) [Ag pb1 [u1,(I x13),(I x14)]] hC27
       refine AG Bo z z (c_S_l1Below pb1 (a1.1,x13,x14) u1 (Bf g1 hC27.keep hF5) 3 hH5 hn5 x21 hr10) ?_
       rintro _ w15 ⟨rfl,hq9⟩
       have hC28:Ctx Fs.flatten w0 w15 [Ag pb1 [u1,(I x21.2.2.1),(I x21.2.2.2)],Ag b2 [(I x12.1.1),v7],Af v7 (x12.1.2:(List Int)),Af v4 (x5:(List ((Int × (List Int)) × (List (Int × (List Int)))))),Af v1 (x1.1:(List Int)),Af v2 (x1.2.1:(List (Int × (List Int) × Int × Int × Int))),Af v3 (x1.2.2.1:(List (Int × (List Int))))]:=hb5 _ _ hq9
       refine Ab<|oe 5 z<|Au [(I x12.1.1),v7] hC28 1 z z z Bu AV z z<|Ab<|be hr9 fun x22 hr11 hr9=>oe 8 z<|AG BN z z (c_S_RespondTo x1.1 v1 ((hC28.ro 4 z).now (A1 _ _)) x1.2.1 v2 ((hC28.ro 5 z).now (A1 _ _)) x17 v8 ((h1 (hC28.ro 6 z)).now (A1 _ _)) (x12.1.1,x12.1.2) v7 ((hC28.ro 2 z).now (A1 _ _)) x21.1 x22 hr11)<|?_
       rintro v10 w16 ⟨hB9,F1,hv2,hn6,hb6⟩
       have hC29:=hC28.push hB9 (A:=Af v10 x22) hv2 hn6 hb6
       refine Ab<|tk 9 z z (Cd (vs:=[(0,(.agg #[(I x12.1.1),v7])),(1,v10)]) z z (built46_0_1 z (B7 (hC29.ro 0 z))))<|BH (vs:=[(0,(.agg #[(I x12.1.1),v7])),(1,v10)]) z z z (built46_0_1 z (B7 (hC29.ro 0 z)))<|Ab<|oe 10 z<|AC (vs:=[(.agg #[(I x12.1.1),v7,v10])]) hC29 A0 ty46 z z z z (fac z<|fa0) z z fun b3 w17 hC30 hB10=>?_
       have hC31:=hC30.row0 (α:=((Int × (List Int)) × (List (Int × (List Int)))))
       have hC33:=hC31.f2
       have hC34:=hC33.f5
       have hC32:=BO x12.1.1 v7 x12.1.2 v10 x22 hC34
       have hC35:=hC32.row1
       have hC36:=hC35.front 1 z
       dsimp only [List.eraseIdx,List.cons_append,List.nil_append,List.append_nil] at hC36
       have hC37:Ctx Fs.flatten w0 w17 (Af (.slice (some ⟨b3,0,none⟩) 1 1) ([((x12.1.1,x12.1.2),x22)]:List ((Int × (List Int)) × (List (Int × (List Int)))))::[Ag pb1 [u1,(I x21.2.2.1),(I x21.2.2.2)],Ag b2 [(I x12.1.1),v7],Af v4 (x5:(List ((Int × (List Int)) × (List (Int × (List Int)))))),Af v1 (x1.1:(List Int)),Af v2 (x1.2.1:(List (Int × (List Int) × Int × Int × Int))),Af v3 (x1.2.2.1:(List (Int × (List Int))))]):=hC36.rowOwn (by simp [maxLen])
       refine Ab<|be hr9 fun x23 hx2 hr9=>oe 11 z<|By hC37 2 z A0 ty46 z hx2 z z z fun v11 w18 hC38=>?_
       try dsimp only [List.set] at hC38
       refine Ab<|ta 12 z z z<|dn<|?_
       obtain rfl:=Aa hr9
       have hC40:=hC38.f5
       have hC41:=hC40.f5
       have hC42:=hC41.f5
       have hC43:=hC42.f5
       have hC44:=hC43.f4
       have hC45:=hC44.h5
       exact Am (l':=[(0,(ptr pb1 0)),(6,v1),(7,v2),(8,v3),(9,v11),(10,(I x6))]) ⟨z,z,z,z,z,z,Aj⟩<|⟨x21.2.2.1,x21.2.2.2,v11,x23,z,z,hC45⟩
      ·refine Au [(I x12.1.1),v7] hC26 0 z z z Bu AV z z<|Ab<|Cn (i:=1) (j:=7) (by kernel_rfl) z z ?_ ?_
       ·refine Au [(I x12.1.1),v7] hC26 0 z z z Bu AV z z<|Ab<|be hr9 fun x21 hr10 hr9=>oe 7 z<|have hC27:=hC26.f2;?_
        obtain ⟨Fs5,hH5,hn5,hF5,hO5,hb5⟩:=AX (As:=[Ag b2 [(I x12.1.1),v7],Af v7 (x12.1.2:(List Int)),Af v4 (x5:(List ((Int × (List Int)) × (List (Int × (List Int)))))),Af v1 (x1.1:(List Int)),Af v2 (x1.2.1:(List (Int × (List Int) × Int × Int × Int))),Af v3 (x1.2.2.1:(List (Int × (List Int))))]) [Ag pb1 [u1,(I x13),(I x14)]] hC27
        refine AG Bo z z (c_S_l1Below pb1 (a1.1,x13,x14) u1 (Bf g1 hC27.keep hF5) 3 hH5 hn5 x21 hr10) ?_
        rintro _ w15 ⟨rfl,hq9⟩
        have hC28:Ctx Fs.flatten w0 w15 [Ag pb1 [u1,(I x21.2.2.1),(I x21.2.2.2)],Ag b2 [(I x12.1.1),v7],Af v7 (x12.1.2:(List Int)),Af v4 (x5:(List ((Int × (List Int)) × (List (Int × (List Int)))))),Af v1 (x1.1:(List Int)),Af v2 (x1.2.1:(List (Int × (List Int) × Int × Int × Int))),Af v3 (x1.2.2.1:(List (Int × (List Int))))]:=hb5 _ _ hq9
        refine Ab<|be hr9 fun x22 hr11 hr9=>oe 8 z<|AG BN z z (c_S_RespondTo x1.1 v1 ((hC28.ro 4 z).now (A1 _ _)) x1.2.1 v2 ((hC28.ro 5 z).now (A1 _ _)) x17 v8 ((h1 (hC28.ro 6 z)).now (A1 _ _)) (x12.1.1,x12.1.2) v7 ((hC28.ro 2 z).now (A1 _ _)) x21.1 x22 hr11)<|?_
        rintro v10 w16 ⟨hB9,F1,hv2,hn6,hb6⟩
        have hC29:=hC28.push hB9 (A:=Af v10 x22) hv2 hn6 hb6
        refine Ab<|tk 9 z z (Cd (vs:=[(0,(.agg #[(I x12.1.1),v7])),(1,v10)]) z z (built46_0_1 z (B7 (hC29.ro 0 z))))<|BH (vs:=[(0,(.agg #[(I x12.1.1),v7])),(1,v10)]) z z z (built46_0_1 z (B7 (hC29.ro 0 z)))<|Ab<|oe 10 z<|AC (vs:=[(.agg #[(I x12.1.1),v7,v10])]) hC29 A0 ty46 z z z z (fac z<|fa0) z z fun b3 w17 hC30 hB10=>?_
        have hC31:=hC30.row0 (α:=((Int × (List Int)) × (List (Int × (List Int)))))
        have hC33:=hC31.f2
        have hC34:=hC33.f5
        have hC32:=BO x12.1.1 v7 x12.1.2 v10 x22 hC34
        have hC35:=hC32.row1
        have hC36:=hC35.front 1 z
        dsimp only [List.eraseIdx,List.cons_append,List.nil_append,List.append_nil] at hC36
        have hC37:Ctx Fs.flatten w0 w17 (Af (.slice (some ⟨b3,0,none⟩) 1 1) ([((x12.1.1,x12.1.2),x22)]:List ((Int × (List Int)) × (List (Int × (List Int)))))::[Ag pb1 [u1,(I x21.2.2.1),(I x21.2.2.2)],Ag b2 [(I x12.1.1),v7],Af v4 (x5:(List ((Int × (List Int)) × (List (Int × (List Int)))))),Af v1 (x1.1:(List Int)),Af v2 (x1.2.1:(List (Int × (List Int) × Int × Int × Int))),Af v3 (x1.2.2.1:(List (Int × (List Int))))]):=hC36.rowOwn (by simp [maxLen])
        refine Ab<|be hr9 fun x23 hx2 hr9=>oe 11 z<|By hC37 2 z A0 ty46 z hx2 z z z fun v11 w18 hC38=>?_
        try dsimp only [List.set] at hC38
        refine Ab<|ta 12 z z z<|dn<|?_
        obtain rfl:=Aa hr9
        have hC40:=hC38.f5
        have hC41:=hC40.f5
        have hC42:=hC41.f5
        have hC43:=hC42.f5
        have hC44:=hC43.f4
        have hC45:=hC44.h5
        exact Am (l':=[(0,(ptr pb1 0)),(6,v1),(7,v2),(8,v3),(9,v11),(10,(I x6))]) ⟨z,z,z,z,z,z,Aj⟩<|⟨x21.2.2.1,x21.2.2.2,v11,x23,z,z,hC45⟩
       refine be hr9 fun x21 hr10 hr9=>have hC27:=hC26.f2;?_
       obtain ⟨Fs5,hH5,hn5,hF5,hO5,hb5⟩:=AX (As:=[Ag b2 [(I x12.1.1),v7],Af v7 (x12.1.2:(List Int)),Af v4 (x5:(List ((Int × (List Int)) × (List (Int × (List Int)))))),Af v1 (x1.1:(List Int)),Af v2 (x1.2.1:(List (Int × (List Int) × Int × Int × Int))),Af v3 (x1.2.2.1:(List (Int × (List Int))))]) [Ag pb1 [u1,(I x13),(I x14)]] hC27
       refine AG Bo z z (c_S_l1Below pb1 (a1.1,x13,x14) u1 (Bf g1 hC27.keep hF5) 3 hH5 hn5 x21 hr10) ?_
       rintro _ w15 ⟨rfl,hq9⟩
       have hC28:Ctx Fs.flatten w0 w15 [Ag pb1 [u1,(I x21.2.2.1),(I x21.2.2.2)],Ag b2 [(I x12.1.1),v7],Af v7 (x12.1.2:(List Int)),Af v4 (x5:(List ((Int × (List Int)) × (List (Int × (List Int)))))),Af v1 (x1.1:(List Int)),Af v2 (x1.2.1:(List (Int × (List Int) × Int × Int × Int))),Af v3 (x1.2.2.1:(List (Int × (List Int))))]:=hb5 _ _ hq9
       refine Ab<|Cn (i:=1) (j:=8) (by kernel_rfl) z z ?_ ?_
       ·refine Au [(I x12.1.1),v7] hC28 1 z z z Bu AV z z<|Ab<|be hr9 fun x22 hr11 hr9=>oe 8 z<|AG BN z z (c_S_RespondTo x1.1 v1 ((hC28.ro 4 z).now (A1 _ _)) x1.2.1 v2 ((hC28.ro 5 z).now (A1 _ _)) x17 v8 ((h1 (hC28.ro 6 z)).now (A1 _ _)) (x12.1.1,x12.1.2) v7 ((hC28.ro 2 z).now (A1 _ _)) x21.1 x22 hr11)<|?_
        rintro v10 w16 ⟨hB9,F1,hv2,hn6,hb6⟩
        have hC29:=hC28.push hB9 (A:=Af v10 x22) hv2 hn6 hb6
        refine Ab<|tk 9 z z (Cd (vs:=[(0,(.agg #[(I x12.1.1),v7])),(1,v10)]) z z (built46_0_1 z (B7 (hC29.ro 0 z))))<|BH (vs:=[(0,(.agg #[(I x12.1.1),v7])),(1,v10)]) z z z (built46_0_1 z (B7 (hC29.ro 0 z)))<|Ab<|oe 10 z<|AC (vs:=[(.agg #[(I x12.1.1),v7,v10])]) hC29 A0 ty46 z z z z (fac z<|fa0) z z fun b3 w17 hC30 hB10=>?_
        have hC31:=hC30.row0 (α:=((Int × (List Int)) × (List (Int × (List Int)))))
        have hC33:=hC31.f2
        have hC34:=hC33.f5
        have hC32:=BO x12.1.1 v7 x12.1.2 v10 x22 hC34
        have hC35:=hC32.row1
        have hC36:=hC35.front 1 z
        dsimp only [List.eraseIdx,List.cons_append,List.nil_append,List.append_nil] at hC36
        have hC37:Ctx Fs.flatten w0 w17 (Af (.slice (some ⟨b3,0,none⟩) 1 1) ([((x12.1.1,x12.1.2),x22)]:List ((Int × (List Int)) × (List (Int × (List Int)))))::[Ag pb1 [u1,(I x21.2.2.1),(I x21.2.2.2)],Ag b2 [(I x12.1.1),v7],Af v4 (x5:(List ((Int × (List Int)) × (List (Int × (List Int)))))),Af v1 (x1.1:(List Int)),Af v2 (x1.2.1:(List (Int × (List Int) × Int × Int × Int))),Af v3 (x1.2.2.1:(List (Int × (List Int))))]):=hC36.rowOwn (by simp [maxLen])
        refine Ab<|be hr9 fun x23 hx2 hr9=>oe 11 z<|By hC37 2 z A0 ty46 z hx2 z z z fun v11 w18 hC38=>?_
        try dsimp only [List.set] at hC38
        refine Ab<|ta 12 z z z<|dn<|?_
        obtain rfl:=Aa hr9
        have hC40:=hC38.f5
        have hC41:=hC40.f5
        have hC42:=hC41.f5
        have hC43:=hC42.f5
        have hC44:=hC43.f4
        have hC45:=hC44.h5
        exact Am (l':=[(0,(ptr pb1 0)),(6,v1),(7,v2),(8,v3),(9,v11),(10,(I x6))]) ⟨z,z,z,z,z,z,Aj⟩<|⟨x21.2.2.1,x21.2.2.2,v11,x23,z,z,hC45⟩
       refine be hr9 fun x22 hr11 hr9=>AG BN z z (c_S_RespondTo x1.1 v1 ((hC28.ro 4 z).now (A1 _ _)) x1.2.1 v2 ((hC28.ro 5 z).now (A1 _ _)) x17 v8 ((h1 (hC28.ro 6 z)).now (A1 _ _)) (x12.1.1,x12.1.2) v7 ((hC28.ro 2 z).now (A1 _ _)) x21.1 x22 hr11)<|?_
       rintro v10 w16 ⟨hB9,F1,hv2,hn6,hb6⟩
       have hC29:=hC28.push hB9 (A:=Af v10 x22) hv2 hn6 hb6
       refine Ab<|oe 1 z<|Au [(I x12.1.1),v7] hC29 2 z z z Bu AV z z<|Ab<|tk 9 z z (Cd (vs:=[(0,(.agg #[(I x12.1.1),v7])),(1,v10)]) z z (built46_0_1 z (B7 (hC29.ro 0 z))))<|BH (vs:=[(0,(.agg #[(I x12.1.1),v7])),(1,v10)]) z z z (built46_0_1 z (B7 (hC29.ro 0 z)))<|Ab<|oe 10 z<|AC (vs:=[(.agg #[(I x12.1.1),v7,v10])]) hC29 A0 ty46 z z z z (fac z<|fa0) z z fun b3 w17 hC30 hB10=>?_
       have hC31:=hC30.row0 (α:=((Int × (List Int)) × (List (Int × (List Int)))))
       have hC33:=hC31.f2
       have hC34:=hC33.f5
       have hC32:=BO x12.1.1 v7 x12.1.2 v10 x22 hC34
       have hC35:=hC32.row1
       have hC36:=hC35.front 1 z
       dsimp only [List.eraseIdx,List.cons_append,List.nil_append,List.append_nil] at hC36
       have hC37:Ctx Fs.flatten w0 w17 (Af (.slice (some ⟨b3,0,none⟩) 1 1) ([((x12.1.1,x12.1.2),x22)]:List ((Int × (List Int)) × (List (Int × (List Int)))))::[Ag pb1 [u1,(I x21.2.2.1),(I x21.2.2.2)],Ag b2 [(I x12.1.1),v7],Af v4 (x5:(List ((Int × (List Int)) × (List (Int × (List Int)))))),Af v1 (x1.1:(List Int)),Af v2 (x1.2.1:(List (Int × (List Int) × Int × Int × Int))),Af v3 (x1.2.2.1:(List (Int × (List Int))))]):=hC36.rowOwn (by simp [maxLen])
       refine Ab<|be hr9 fun x23 hx2 hr9=>oe 11 z<|By hC37 2 z A0 ty46 z hx2 z z z fun v11 w18 hC38=>?_
       try dsimp only [List.set] at hC38
       refine Ab<|ta 12 z z z<|dn<|?_
       obtain rfl:=Aa hr9
       have hC40:=hC38.f5
       have hC41:=hC40.f5
       have hC42:=hC41.f5
       have hC43:=hC42.f5
       have hC44:=hC43.f4
       have hC45:=hC44.h5
       exact Am (l':=[(0,(ptr pb1 0)),(6,v1),(7,v2),(8,v3),(9,v11),(10,(I x6))]) ⟨z,z,z,z,z,z,Aj⟩<|⟨x21.2.2.1,x21.2.2.2,v11,x23,z,z,hC45⟩
      refine be hr9 fun x21 hr10 hr9=>have hC27:=hC26.f2;?_
      obtain ⟨Fs5,hH5,hn5,hF5,hO5,hb5⟩:=AX (As:=[Ag b2 [(I x12.1.1),v7],Af v7 (x12.1.2:(List Int)),Af v4 (x5:(List ((Int × (List Int)) × (List (Int × (List Int)))))),Af v1 (x1.1:(List Int)),Af v2 (x1.2.1:(List (Int × (List Int) × Int × Int × Int))),Af v3 (x1.2.2.1:(List (Int × (List Int))))]) [Ag pb1 [u1,(I x13),(I x14)]] hC27
      refine AG Bo z z (c_S_l1Below pb1 (a1.1,x13,x14) u1 (Bf g1 hC27.keep hF5) 3 hH5 hn5 x21 hr10) ?_
      rintro _ w15 ⟨rfl,hq9⟩
      have hC28:Ctx Fs.flatten w0 w15 [Ag pb1 [u1,(I x21.2.2.1),(I x21.2.2.2)],Ag b2 [(I x12.1.1),v7],Af v7 (x12.1.2:(List Int)),Af v4 (x5:(List ((Int × (List Int)) × (List (Int × (List Int)))))),Af v1 (x1.1:(List Int)),Af v2 (x1.2.1:(List (Int × (List Int) × Int × Int × Int))),Af v3 (x1.2.2.1:(List (Int × (List Int))))]:=hb5 _ _ hq9
      refine Ab<|Cn (i:=1) (j:=5) (by kernel_rfl) z z ?_ ?_
      ·refine Au [(I x12.1.1),v7] hC28 1 z z z Bu AV z z<|Ab<|oe 5 z<|Au [(I x12.1.1),v7] hC28 1 z z z Bu AV z z<|Ab<|be hr9 fun x22 hr11 hr9=>oe 8 z<|AG BN z z (c_S_RespondTo x1.1 v1 ((hC28.ro 4 z).now (A1 _ _)) x1.2.1 v2 ((hC28.ro 5 z).now (A1 _ _)) x17 v8 ((h1 (hC28.ro 6 z)).now (A1 _ _)) (x12.1.1,x12.1.2) v7 ((hC28.ro 2 z).now (A1 _ _)) x21.1 x22 hr11)<|?_
       rintro v10 w16 ⟨hB9,F1,hv2,hn6,hb6⟩
       have hC29:=hC28.push hB9 (A:=Af v10 x22) hv2 hn6 hb6
       refine Ab<|tk 9 z z (Cd (vs:=[(0,(.agg #[(I x12.1.1),v7])),(1,v10)]) z z (built46_0_1 z (B7 (hC29.ro 0 z))))<|BH (vs:=[(0,(.agg #[(I x12.1.1),v7])),(1,v10)]) z z z (built46_0_1 z (B7 (hC29.ro 0 z)))<|Ab<|oe 10 z<|AC (vs:=[(.agg #[(I x12.1.1),v7,v10])]) hC29 A0 ty46 z z z z (fac z<|fa0) z z fun b3 w17 hC30 hB10=>?_
       have hC31:=hC30.row0 (α:=((Int × (List Int)) × (List (Int × (List Int)))))
       have hC33:=hC31.f2
       have hC34:=hC33.f5
       have hC32:=BO x12.1.1 v7 x12.1.2 v10 x22 hC34
       have hC35:=hC32.row1
       have hC36:=hC35.front 1 z
       dsimp only [List.eraseIdx,List.cons_append,List.nil_append,List.append_nil] at hC36
       have hC37:Ctx Fs.flatten w0 w17 (Af (.slice (some ⟨b3,0,none⟩) 1 1) ([((x12.1.1,x12.1.2),x22)]:List ((Int × (List Int)) × (List (Int × (List Int)))))::[Ag pb1 [u1,(I x21.2.2.1),(I x21.2.2.2)],Ag b2 [(I x12.1.1),v7],Af v4 (x5:(List ((Int × (List Int)) × (List (Int × (List Int)))))),Af v1 (x1.1:(List Int)),Af v2 (x1.2.1:(List (Int × (List Int) × Int × Int × Int))),Af v3 (x1.2.2.1:(List (Int × (List Int))))]):=hC36.rowOwn (by simp [maxLen])
       refine Ab<|be hr9 fun x23 hx2 hr9=>oe 11 z<|By hC37 2 z A0 ty46 z hx2 z z z fun v11 w18 hC38=>?_
       try dsimp only [List.set] at hC38
       refine Ab<|ta 12 z z z<|dn<|?_
       obtain rfl:=Aa hr9
       have hC40:=hC38.f5
       have hC41:=hC40.f5
       have hC42:=hC41.f5
       have hC43:=hC42.f5
       have hC44:=hC43.f4
       have hC45:=hC44.h5
       exact Am (l':=[(0,(ptr pb1 0)),(6,v1),(7,v2),(8,v3),(9,v11),(10,(I x6))]) ⟨z,z,z,z,z,z,Aj⟩<|⟨x21.2.2.1,x21.2.2.2,v11,x23,z,z,hC45⟩
      refine Au [(I x12.1.1),v7] hC28 1 z z z Bu AV z z<|Ab<|Cn (i:=1) (j:=8) (by kernel_rfl) z z ?_ ?_
      ·refine Au [(I x12.1.1),v7] hC28 1 z z z Bu AV z z<|Ab<|be hr9 fun x22 hr11 hr9=>oe 8 z<|AG BN z z (c_S_RespondTo x1.1 v1 ((hC28.ro 4 z).now (A1 _ _)) x1.2.1 v2 ((hC28.ro 5 z).now (A1 _ _)) x17 v8 ((h1 (hC28.ro 6 z)).now (A1 _ _)) (x12.1.1,x12.1.2) v7 ((hC28.ro 2 z).now (A1 _ _)) x21.1 x22 hr11)<|?_
       rintro v10 w16 ⟨hB9,F1,hv2,hn6,hb6⟩
       have hC29:=hC28.push hB9 (A:=Af v10 x22) hv2 hn6 hb6
       refine Ab<|tk 9 z z (Cd (vs:=[(0,(.agg #[(I x12.1.1),v7])),(1,v10)]) z z (built46_0_1 z (B7 (hC29.ro 0 z))))<|BH (vs:=[(0,(.agg #[(I x12.1.1),v7])),(1,v10)]) z z z (built46_0_1 z (B7 (hC29.ro 0 z)))<|Ab<|oe 10 z<|AC (vs:=[(.agg #[(I x12.1.1),v7,v10])]) hC29 A0 ty46 z z z z (fac z<|fa0) z z fun b3 w17 hC30 hB10=>?_
       have hC31:=hC30.row0 (α:=((Int × (List Int)) × (List (Int × (List Int)))))
       have hC33:=hC31.f2
       have hC34:=hC33.f5
       have hC32:=BO x12.1.1 v7 x12.1.2 v10 x22 hC34
       have hC35:=hC32.row1
       have hC36:=hC35.front 1 z
       dsimp only [List.eraseIdx,List.cons_append,List.nil_append,List.append_nil] at hC36
       have hC37:Ctx Fs.flatten w0 w17 (Af (.slice (some ⟨b3,0,none⟩) 1 1) ([((x12.1.1,x12.1.2),x22)]:List ((Int × (List Int)) × (List (Int × (List Int)))))::[Ag pb1 [u1,(I x21.2.2.1),(I x21.2.2.2)],Ag b2 [(I x12.1.1),v7],Af v4 (x5:(List ((Int × (List Int)) × (List (Int × (List Int)))))),Af v1 (x1.1:(List Int)),Af v2 (x1.2.1:(List (Int × (List Int) × Int × Int × Int))),Af v3 (x1.2.2.1:(List (Int × (List Int))))]):=hC36.rowOwn (by simp [maxLen])
       refine Ab<|be hr9 fun x23 hx2 hr9=>oe 11 z<|By hC37 2 z A0 ty46 z hx2 z z z fun v11 w18 hC38=>?_
       try dsimp only [List.set] at hC38
       refine Ab<|ta 12 z z z<|dn<|?_
       obtain rfl:=Aa hr9
       have hC40:=hC38.f5
       have hC41:=hC40.f5
       have hC42:=hC41.f5
       have hC43:=hC42.f5
       have hC44:=hC43.f4
       have hC45:=hC44.h5
       exact Am (l':=[(0,(ptr pb1 0)),(6,v1),(7,v2),(8,v3),(9,v11),(10,(I x6))]) ⟨z,z,z,z,z,z,Aj⟩<|⟨x21.2.2.1,x21.2.2.2,v11,x23,z,z,hC45⟩
      refine be hr9 fun x22 hr11 hr9=>AG BN z z (c_S_RespondTo x1.1 v1 ((hC28.ro 4 z).now (A1 _ _)) x1.2.1 v2 ((hC28.ro 5 z).now (A1 _ _)) x17 v8 ((h1 (hC28.ro 6 z)).now (A1 _ _)) (x12.1.1,x12.1.2) v7 ((hC28.ro 2 z).now (A1 _ _)) x21.1 x22 hr11)<|?_
      rintro v10 w16 ⟨hB9,F1,hv2,hn6,hb6⟩
      have hC29:=hC28.push hB9 (A:=Af v10 x22) hv2 hn6 hb6
      refine Ab<|oe 1 z<|Au [(I x12.1.1),v7] hC29 2 z z z Bu AV z z<|Ab<|tk 9 z z (Cd (vs:=[(0,(.agg #[(I x12.1.1),v7])),(1,v10)]) z z (built46_0_1 z (B7 (hC29.ro 0 z))))<|BH (vs:=[(0,(.agg #[(I x12.1.1),v7])),(1,v10)]) z z z (built46_0_1 z (B7 (hC29.ro 0 z)))<|Ab<|oe 10 z<|AC (vs:=[(.agg #[(I x12.1.1),v7,v10])]) hC29 A0 ty46 z z z z (fac z<|fa0) z z fun b3 w17 hC30 hB10=>?_
      have hC31:=hC30.row0 (α:=((Int × (List Int)) × (List (Int × (List Int)))))
      have hC33:=hC31.f2
      have hC34:=hC33.f5
      have hC32:=BO x12.1.1 v7 x12.1.2 v10 x22 hC34
      have hC35:=hC32.row1
      have hC36:=hC35.front 1 z
      dsimp only [List.eraseIdx,List.cons_append,List.nil_append,List.append_nil] at hC36
      have hC37:Ctx Fs.flatten w0 w17 (Af (.slice (some ⟨b3,0,none⟩) 1 1) ([((x12.1.1,x12.1.2),x22)]:List ((Int × (List Int)) × (List (Int × (List Int)))))::[Ag pb1 [u1,(I x21.2.2.1),(I x21.2.2.2)],Ag b2 [(I x12.1.1),v7],Af v4 (x5:(List ((Int × (List Int)) × (List (Int × (List Int)))))),Af v1 (x1.1:(List Int)),Af v2 (x1.2.1:(List (Int × (List Int) × Int × Int × Int))),Af v3 (x1.2.2.1:(List (Int × (List Int))))]):=hC36.rowOwn (by simp [maxLen])
      refine Ab<|be hr9 fun x23 hx2 hr9=>oe 11 z<|By hC37 2 z A0 ty46 z hx2 z z z fun v11 w18 hC38=>?_
      try dsimp only [List.set] at hC38
      refine Ab<|ta 12 z z z<|dn<|?_
      obtain rfl:=Aa hr9
      have hC40:=hC38.f5
      have hC41:=hC40.f5
      have hC42:=hC41.f5
      have hC43:=hC42.f5
      have hC44:=hC43.f4
      have hC45:=hC44.h5
      exact Am (l':=[(0,(ptr pb1 0)),(6,v1),(7,v2),(8,v3),(9,v11),(10,(I x6))]) ⟨z,z,z,z,z,z,Aj⟩<|⟨x21.2.2.1,x21.2.2.2,v11,x23,z,z,hC45⟩
     rintro l4 _ w13 hs4 ⟨x18,x19,v9,x20,rfl,rfl,hC25⟩
     try dsimp only at hL1
     refine AU<|AY hs4<|?_
     clear hs4
     exact Bg<|Ae z z<|BR z z z<|Ad z z<|Ab<|Am (l':=[(0,(ptr pb1 0)),(6,v1),(7,v2),(8,v3),(9,v9),(10,(I (w64 (x6 - 1))))]) ⟨z,z,z,z,z,z,Aj⟩<|⟨k1,A3 _,x18,x19,v9,x20,w64 (x6 - 1),z,hC25,hL1⟩
    replace hL1:=A8 hL1 hc4
    refine AF<|Ap<|be hL1 fun r5 hr12 hL1=>Bi (fun l w=>∃x24:Int,∃x25:Int,∃v12:Value,∃x26:(List ((Int × (List Int)) × (List (Int × (List Int))))),(x24,x25,x26)=r5∧l=[(0,(ptr pb1 0)),(6,v1),(7,v2),(8,v3),(9,v12),(10,(I x6))]∧Ctx Fs.flatten w0 w [Ag pb1 [u1,(I x24),(I x25)],Af v12 (x26:(List ((Int × (List Int)) × (List (Int × (List Int)))))),Af v1 (x1.1:(List Int)),Af v2 (x1.2.1:(List (Int × (List Int) × Int × Int × Int))),Af v3 (x1.2.2.1:(List (Int × (List Int))))]) ?_ ?_
    ·refine W_drawn 13 z hmix fun w20 hB12=>have hC47:=hC15.grow hB12;tm 0 z z z<|tm 2 z z z<|tm 3 z z z<|tm 4 z z z<|tm 6 z z z<|WA_all3 (i:=1) (j:=5) (m:=7) (by kernel_rfl) z z z ?_ ?_ ?_
     ·refine Au [(I x12.1.1),v7] hC47 0 z z z Bu AV z z<|Ab<|Cn (i:=5) (j:=7) (by kernel_rfl) z z ?_ ?_
      ·refine Au [(I x12.1.1),v7] hC47 0 z z z Bu AV z z<|Ab<|be hr12 fun x27 hr13 hr12=>oe 7 z<|have hC48:=hC47.f2;?_
       obtain ⟨Fs6,hH6,hn7,hF6,hO6,hb7⟩:=AX (As:=[Ag b2 [(I x12.1.1),v7],Af v7 (x12.1.2:(List Int)),Af v4 (x5:(List ((Int × (List Int)) × (List (Int × (List Int)))))),Af v1 (x1.1:(List Int)),Af v2 (x1.2.1:(List (Int × (List Int) × Int × Int × Int))),Af v3 (x1.2.2.1:(List (Int × (List Int))))]) [Ag pb1 [u1,(I x13),(I x14)]] hC48
       refine AG Bo z z (c_S_l1Below pb1 (a1.1,x13,x14) u1 (Bf g1 hC48.keep hF6) 3 hH6 hn7 x27 hr13) ?_
       rintro _ w21 ⟨rfl,hq11⟩
       have hC49:Ctx Fs.flatten w0 w21 [Ag pb1 [u1,(I x27.2.2.1),(I x27.2.2.2)],Ag b2 [(I x12.1.1),v7],Af v7 (x12.1.2:(List Int)),Af v4 (x5:(List ((Int × (List Int)) × (List (Int × (List Int)))))),Af v1 (x1.1:(List Int)),Af v2 (x1.2.1:(List (Int × (List Int) × Int × Int × Int))),Af v3 (x1.2.2.1:(List (Int × (List Int))))]:=hb7 _ _ hq11
       refine Ab<|be hr12 fun x28 hr14 hr12=>oe 8 z<|AG BN z z (c_S_RespondTo x1.1 v1 ((hC49.ro 4 z).now (A1 _ _)) x1.2.1 v2 ((hC49.ro 5 z).now (A1 _ _)) x1.2.2.1 v3 ((hC49.ro 6 z).now (A1 _ _)) (x12.1.1,x12.1.2) v7 ((hC49.ro 2 z).now (A1 _ _)) x27.1 x28 hr14)<|?_
       rintro v13 w22 ⟨hB13,F2,hv3,hn8,hb8⟩
       have hC50:=hC49.push hB13 (A:=Af v13 x28) hv3 hn8 hb8
       refine Ab<|tk 9 z z (Cd (vs:=[(0,(.agg #[(I x12.1.1),v7])),(1,v13)]) z z (built46_0_1 z (B7 (hC50.ro 0 z))))<|BH (vs:=[(0,(.agg #[(I x12.1.1),v7])),(1,v13)]) z z z (built46_0_1 z (B7 (hC50.ro 0 z)))<|Ab<|oe 10 z<|AC (vs:=[(.agg #[(I x12.1.1),v7,v13])]) hC50 A0 ty46 z z z z (fac z<|fa0) z z fun b4 w23 hC51 hB14=>?_
       have hC52:=hC51.row0 (α:=((Int × (List Int)) × (List (Int × (List Int)))))
       have hC54:=hC52.f2
       have hC55:=hC54.f5
       have hC53:=BO x12.1.1 v7 x12.1.2 v13 x28 hC55
       have hC56:=hC53.row1
       have hC57:=hC56.front 1 z
       dsimp only [List.eraseIdx,List.cons_append,List.nil_append,List.append_nil] at hC57
       have hC58:Ctx Fs.flatten w0 w23 (Af (.slice (some ⟨b4,0,none⟩) 1 1) ([((x12.1.1,x12.1.2),x28)]:List ((Int × (List Int)) × (List (Int × (List Int)))))::[Ag pb1 [u1,(I x27.2.2.1),(I x27.2.2.2)],Ag b2 [(I x12.1.1),v7],Af v4 (x5:(List ((Int × (List Int)) × (List (Int × (List Int)))))),Af v1 (x1.1:(List Int)),Af v2 (x1.2.1:(List (Int × (List Int) × Int × Int × Int))),Af v3 (x1.2.2.1:(List (Int × (List Int))))]):=hC57.rowOwn (by simp [maxLen])
       refine Ab<|be hr12 fun x29 hx3 hr12=>oe 11 z<|By hC58 2 z A0 ty46 z hx3 z z z fun v14 w24 hC59=>?_
       try dsimp only [List.set] at hC59
       refine Ab<|ta 12 z z z<|dn<|?_
       obtain rfl:=Aa hr12
       have hC61:=hC59.f5
       have hC62:=hC61.f5
       have hC63:=hC62.f5
       have hC64:=hC63.f5
       have hC65:=hC64.f4
       have hC66:=hC65.h5
       exact Am (l':=[(0,(ptr pb1 0)),(6,v1),(7,v2),(8,v3),(9,v14),(10,(I x6))]) ⟨z,z,z,z,z,z,Aj⟩<|⟨x27.2.2.1,x27.2.2.2,v14,x29,z,z,hC66⟩
      refine be hr12 fun x27 hr13 hr12=>have hC48:=hC47.f2;?_
      obtain ⟨Fs6,hH6,hn7,hF6,hO6,hb7⟩:=AX (As:=[Ag b2 [(I x12.1.1),v7],Af v7 (x12.1.2:(List Int)),Af v4 (x5:(List ((Int × (List Int)) × (List (Int × (List Int)))))),Af v1 (x1.1:(List Int)),Af v2 (x1.2.1:(List (Int × (List Int) × Int × Int × Int))),Af v3 (x1.2.2.1:(List (Int × (List Int))))]) [Ag pb1 [u1,(I x13),(I x14)]] hC48
      refine AG Bo z z (c_S_l1Below pb1 (a1.1,x13,x14) u1 (Bf g1 hC48.keep hF6) 3 hH6 hn7 x27 hr13) ?_
      rintro _ w21 ⟨rfl,hq11⟩
      have hC49:Ctx Fs.flatten w0 w21 [Ag pb1 [u1,(I x27.2.2.1),(I x27.2.2.2)],Ag b2 [(I x12.1.1),v7],Af v7 (x12.1.2:(List Int)),Af v4 (x5:(List ((Int × (List Int)) × (List (Int × (List Int)))))),Af v1 (x1.1:(List Int)),Af v2 (x1.2.1:(List (Int × (List Int) × Int × Int × Int))),Af v3 (x1.2.2.1:(List (Int × (List Int))))]:=hb7 _ _ hq11
      refine Ab<|oe 5 z<|Au [(I x12.1.1),v7] hC49 1 z z z Bu AV z z<|Ab<|be hr12 fun x28 hr14 hr12=>oe 8 z<|AG BN z z (c_S_RespondTo x1.1 v1 ((hC49.ro 4 z).now (A1 _ _)) x1.2.1 v2 ((hC49.ro 5 z).now (A1 _ _)) x1.2.2.1 v3 ((hC49.ro 6 z).now (A1 _ _)) (x12.1.1,x12.1.2) v7 ((hC49.ro 2 z).now (A1 _ _)) x27.1 x28 hr14)<|?_
      rintro v13 w22 ⟨hB13,F2,hv3,hn8,hb8⟩
      have hC50:=hC49.push hB13 (A:=Af v13 x28) hv3 hn8 hb8
      refine Ab<|tk 9 z z (Cd (vs:=[(0,(.agg #[(I x12.1.1),v7])),(1,v13)]) z z (built46_0_1 z (B7 (hC50.ro 0 z))))<|BH (vs:=[(0,(.agg #[(I x12.1.1),v7])),(1,v13)]) z z z (built46_0_1 z (B7 (hC50.ro 0 z)))<|Ab<|oe 10 z<|AC (vs:=[(.agg #[(I x12.1.1),v7,v13])]) hC50 A0 ty46 z z z z (fac z<|fa0) z z fun b4 w23 hC51 hB14=>?_
      have hC52:=hC51.row0 (α:=((Int × (List Int)) × (List (Int × (List Int)))))
      have hC54:=hC52.f2
      have hC55:=hC54.f5
      have hC53:=BO x12.1.1 v7 x12.1.2 v13 x28 hC55
      have hC56:=hC53.row1
      have hC57:=hC56.front 1 z
      dsimp only [List.eraseIdx,List.cons_append,List.nil_append,List.append_nil] at hC57
      have hC58:Ctx Fs.flatten w0 w23 (Af (.slice (some ⟨b4,0,none⟩) 1 1) ([((x12.1.1,x12.1.2),x28)]:List ((Int × (List Int)) × (List (Int × (List Int)))))::[Ag pb1 [u1,(I x27.2.2.1),(I x27.2.2.2)],Ag b2 [(I x12.1.1),v7],Af v4 (x5:(List ((Int × (List Int)) × (List (Int × (List Int)))))),Af v1 (x1.1:(List Int)),Af v2 (x1.2.1:(List (Int × (List Int) × Int × Int × Int))),Af v3 (x1.2.2.1:(List (Int × (List Int))))]):=hC57.rowOwn (by simp [maxLen])
      refine Ab<|be hr12 fun x29 hx3 hr12=>oe 11 z<|By hC58 2 z A0 ty46 z hx3 z z z fun v14 w24 hC59=>?_
      try dsimp only [List.set] at hC59
      refine Ab<|ta 12 z z z<|dn<|?_
      obtain rfl:=Aa hr12
      have hC61:=hC59.f5
      have hC62:=hC61.f5
      have hC63:=hC62.f5
      have hC64:=hC63.f5
      have hC65:=hC64.f4
      have hC66:=hC65.h5
      exact Am (l':=[(0,(ptr pb1 0)),(6,v1),(7,v2),(8,v3),(9,v14),(10,(I x6))]) ⟨z,z,z,z,z,z,Aj⟩<|⟨x27.2.2.1,x27.2.2.2,v14,x29,z,z,hC66⟩
     ·refine Au [(I x12.1.1),v7] hC47 0 z z z Bu AV z z<|Ab<|Cn (i:=1) (j:=7) (by kernel_rfl) z z ?_ ?_
      ·refine Au [(I x12.1.1),v7] hC47 0 z z z Bu AV z z<|Ab<|be hr12 fun x27 hr13 hr12=>oe 7 z<|have hC48:=hC47.f2;?_
       obtain ⟨Fs6,hH6,hn7,hF6,hO6,hb7⟩:=AX (As:=[Ag b2 [(I x12.1.1),v7],Af v7 (x12.1.2:(List Int)),Af v4 (x5:(List ((Int × (List Int)) × (List (Int × (List Int)))))),Af v1 (x1.1:(List Int)),Af v2 (x1.2.1:(List (Int × (List Int) × Int × Int × Int))),Af v3 (x1.2.2.1:(List (Int × (List Int))))]) [Ag pb1 [u1,(I x13),(I x14)]] hC48
       refine AG Bo z z (c_S_l1Below pb1 (a1.1,x13,x14) u1 (Bf g1 hC48.keep hF6) 3 hH6 hn7 x27 hr13) ?_
       rintro _ w21 ⟨rfl,hq11⟩
       have hC49:Ctx Fs.flatten w0 w21 [Ag pb1 [u1,(I x27.2.2.1),(I x27.2.2.2)],Ag b2 [(I x12.1.1),v7],Af v7 (x12.1.2:(List Int)),Af v4 (x5:(List ((Int × (List Int)) × (List (Int × (List Int)))))),Af v1 (x1.1:(List Int)),Af v2 (x1.2.1:(List (Int × (List Int) × Int × Int × Int))),Af v3 (x1.2.2.1:(List (Int × (List Int))))]:=hb7 _ _ hq11
       refine Ab<|be hr12 fun x28 hr14 hr12=>oe 8 z<|AG BN z z (c_S_RespondTo x1.1 v1 ((hC49.ro 4 z).now (A1 _ _)) x1.2.1 v2 ((hC49.ro 5 z).now (A1 _ _)) x1.2.2.1 v3 ((hC49.ro 6 z).now (A1 _ _)) (x12.1.1,x12.1.2) v7 ((hC49.ro 2 z).now (A1 _ _)) x27.1 x28 hr14)<|?_
       rintro v13 w22 ⟨hB13,F2,hv3,hn8,hb8⟩
       have hC50:=hC49.push hB13 (A:=Af v13 x28) hv3 hn8 hb8
       refine Ab<|tk 9 z z (Cd (vs:=[(0,(.agg #[(I x12.1.1),v7])),(1,v13)]) z z (built46_0_1 z (B7 (hC50.ro 0 z))))<|BH (vs:=[(0,(.agg #[(I x12.1.1),v7])),(1,v13)]) z z z (built46_0_1 z (B7 (hC50.ro 0 z)))<|Ab<|oe 10 z<|AC (vs:=[(.agg #[(I x12.1.1),v7,v13])]) hC50 A0 ty46 z z z z (fac z<|fa0) z z fun b4 w23 hC51 hB14=>?_
       have hC52:=hC51.row0 (α:=((Int × (List Int)) × (List (Int × (List Int)))))
       have hC54:=hC52.f2
       have hC55:=hC54.f5
       have hC53:=BO x12.1.1 v7 x12.1.2 v13 x28 hC55
       have hC56:=hC53.row1
       have hC57:=hC56.front 1 z
       dsimp only [List.eraseIdx,List.cons_append,List.nil_append,List.append_nil] at hC57
       have hC58:Ctx Fs.flatten w0 w23 (Af (.slice (some ⟨b4,0,none⟩) 1 1) ([((x12.1.1,x12.1.2),x28)]:List ((Int × (List Int)) × (List (Int × (List Int)))))::[Ag pb1 [u1,(I x27.2.2.1),(I x27.2.2.2)],Ag b2 [(I x12.1.1),v7],Af v4 (x5:(List ((Int × (List Int)) × (List (Int × (List Int)))))),Af v1 (x1.1:(List Int)),Af v2 (x1.2.1:(List (Int × (List Int) × Int × Int × Int))),Af v3 (x1.2.2.1:(List (Int × (List Int))))]):=hC57.rowOwn (by simp [maxLen])
       refine Ab<|be hr12 fun x29 hx3 hr12=>oe 11 z<|By hC58 2 z A0 ty46 z hx3 z z z fun v14 w24 hC59=>?_
       try dsimp only [List.set] at hC59
       refine Ab<|ta 12 z z z<|dn<|?_
       obtain rfl:=Aa hr12
       have hC61:=hC59.f5
       have hC62:=hC61.f5
       have hC63:=hC62.f5
       have hC64:=hC63.f5
       have hC65:=hC64.f4
       have hC66:=hC65.h5
       exact Am (l':=[(0,(ptr pb1 0)),(6,v1),(7,v2),(8,v3),(9,v14),(10,(I x6))]) ⟨z,z,z,z,z,z,Aj⟩<|⟨x27.2.2.1,x27.2.2.2,v14,x29,z,z,hC66⟩
      refine be hr12 fun x27 hr13 hr12=>have hC48:=hC47.f2;?_
      obtain ⟨Fs6,hH6,hn7,hF6,hO6,hb7⟩:=AX (As:=[Ag b2 [(I x12.1.1),v7],Af v7 (x12.1.2:(List Int)),Af v4 (x5:(List ((Int × (List Int)) × (List (Int × (List Int)))))),Af v1 (x1.1:(List Int)),Af v2 (x1.2.1:(List (Int × (List Int) × Int × Int × Int))),Af v3 (x1.2.2.1:(List (Int × (List Int))))]) [Ag pb1 [u1,(I x13),(I x14)]] hC48
      refine AG Bo z z (c_S_l1Below pb1 (a1.1,x13,x14) u1 (Bf g1 hC48.keep hF6) 3 hH6 hn7 x27 hr13) ?_
      rintro _ w21 ⟨rfl,hq11⟩
      have hC49:Ctx Fs.flatten w0 w21 [Ag pb1 [u1,(I x27.2.2.1),(I x27.2.2.2)],Ag b2 [(I x12.1.1),v7],Af v7 (x12.1.2:(List Int)),Af v4 (x5:(List ((Int × (List Int)) × (List (Int × (List Int)))))),Af v1 (x1.1:(List Int)),Af v2 (x1.2.1:(List (Int × (List Int) × Int × Int × Int))),Af v3 (x1.2.2.1:(List (Int × (List Int))))]:=hb7 _ _ hq11
      refine Ab<|be hr12 fun x28 hr14 hr12=>wAS (l':=[(0,(ptr pb1 0)),(6,v1),(7,v2),(8,v3),(9,v4),(10,(I x6)),(11,(ptr b2 0)),(12,v3),(41,(.bool x15)),(44,v4),(46,v1),(47,v2),(48,v3),(49,(.agg #[(I x12.1.1),v7])),(50,(ptr pb1 0)),(51,(I x27.1))]) ⟨z,z,z,z,z,z,z,z,z,z,z,z,z,z,z,z,Aj⟩<|Bq [⟨1,[],fun vs=>Ba (.agg #[(I x12.1.1),v7]),[]⟩,⟨8,[],fun vs=>CU x28,[]⟩] [[],[]] 4 z (by kernel_rfl) (by kernel_rfl) z ?_ ?_
      ·refine An z ?_ ?_
       ·intro w23 hB14
        refine At<|⟨_,z,?_⟩
        exact Au [(I x12.1.1),v7] (hC49.grow hB14) 1 z z z Bu AV z z<|Ab<|Aw (Al _ _) z z ⟨z,z⟩
       refine An z ?_ ?_
       ·intro w23 hB14
        refine At<|⟨_,z,?_⟩
        refine AG BN z z (c_S_RespondTo x1.1 v1 ((hC49.grow hB14).ro 4 z) x1.2.1 v2 ((hC49.grow hB14).ro 5 z) x1.2.2.1 v3 ((hC49.grow hB14).ro 6 z) (x12.1.1,x12.1.2) v7 ((hC49.grow hB14).ro 2 z) x27.1 x28 hr14) ?_
        rintro v13 w22 ⟨hB13,F2,hv3,hn8,hb8⟩
        exact Ab<|Db hB13 z z hv3 hn8 hb8 (Val.inh hv3)
       exact Bj
      intro w24 hB15
      refine Ar z z z ?_
      rintro _ _ ⟨rfl,rfl⟩
      refine Ar z z z fun v13 F2 hv3=>Bt fun hn9 hb9=>?_
      have hC50:=hC49.pushL hB15 (Bs:=[Af v13 (x28:(List (Int × (List Int))))]) (Fs:=[F2]) ⟨F2,_,z,hv3,z⟩ (by simpa using hn9) (fun b h=>(hb9 b (by simpa using h)).1)
      refine tk 9 z z (Cd (vs:=[(0,(.agg #[(I x12.1.1),v7])),(1,v13)]) z z (built46_0_1 z (B7 (hC50.ro 0 z))))<|BH (vs:=[(0,(.agg #[(I x12.1.1),v7])),(1,v13)]) z z z (built46_0_1 z (B7 (hC50.ro 0 z)))<|Ab<|oe 10 z<|AC (vs:=[(.agg #[(I x12.1.1),v7,v13])]) hC50 A0 ty46 z z z z (fac z<|fa0) z z fun b4 w25 hC51 hB16=>?_
      have hC52:=hC51.row0 (α:=((Int × (List Int)) × (List (Int × (List Int)))))
      have hC54:=hC52.f2
      have hC55:=hC54.f5
      have hC53:=BO x12.1.1 v7 x12.1.2 v13 x28 hC55
      have hC56:=hC53.row1
      have hC57:=hC56.front 1 z
      dsimp only [List.eraseIdx,List.cons_append,List.nil_append,List.append_nil] at hC57
      have hC58:Ctx Fs.flatten w0 w25 (Af (.slice (some ⟨b4,0,none⟩) 1 1) ([((x12.1.1,x12.1.2),x28)]:List ((Int × (List Int)) × (List (Int × (List Int)))))::[Ag pb1 [u1,(I x27.2.2.1),(I x27.2.2.2)],Ag b2 [(I x12.1.1),v7],Af v4 (x5:(List ((Int × (List Int)) × (List (Int × (List Int)))))),Af v1 (x1.1:(List Int)),Af v2 (x1.2.1:(List (Int × (List Int) × Int × Int × Int))),Af v3 (x1.2.2.1:(List (Int × (List Int))))]):=hC57.rowOwn (by simp [maxLen])
      refine Ab<|be hr12 fun x29 hx3 hr12=>oe 11 z<|By hC58 2 z A0 ty46 z hx3 z z z fun v14 w26 hC59=>?_
      try dsimp only [List.set] at hC59
      refine Ab<|ta 12 z z z<|dn<|?_
      obtain rfl:=Aa hr12
      have hC61:=hC59.f5
      have hC62:=hC61.f5
      have hC63:=hC62.f5
      have hC64:=hC63.f5
      have hC65:=hC64.f4
      have hC66:=hC65.h5
      exact Am (l':=[(0,(ptr pb1 0)),(6,v1),(7,v2),(8,v3),(9,v14),(10,(I x6))]) ⟨z,z,z,z,z,z,Aj⟩<|⟨x27.2.2.1,x27.2.2.2,v14,x29,z,z,hC66⟩
     refine be hr12 fun x27 hr13 hr12=>have hC48:=hC47.f2;?_
     obtain ⟨Fs6,hH6,hn7,hF6,hO6,hb7⟩:=AX (As:=[Ag b2 [(I x12.1.1),v7],Af v7 (x12.1.2:(List Int)),Af v4 (x5:(List ((Int × (List Int)) × (List (Int × (List Int)))))),Af v1 (x1.1:(List Int)),Af v2 (x1.2.1:(List (Int × (List Int) × Int × Int × Int))),Af v3 (x1.2.2.1:(List (Int × (List Int))))]) [Ag pb1 [u1,(I x13),(I x14)]] hC48
     refine AG Bo z z (c_S_l1Below pb1 (a1.1,x13,x14) u1 (Bf g1 hC48.keep hF6) 3 hH6 hn7 x27 hr13) ?_
     rintro _ w21 ⟨rfl,hq11⟩
     have hC49:Ctx Fs.flatten w0 w21 [Ag pb1 [u1,(I x27.2.2.1),(I x27.2.2.2)],Ag b2 [(I x12.1.1),v7],Af v7 (x12.1.2:(List Int)),Af v4 (x5:(List ((Int × (List Int)) × (List (Int × (List Int)))))),Af v1 (x1.1:(List Int)),Af v2 (x1.2.1:(List (Int × (List Int) × Int × Int × Int))),Af v3 (x1.2.2.1:(List (Int × (List Int))))]:=hb7 _ _ hq11
     refine Ab<|be hr12 fun x28 hr14 hr12=>wAS (l':=[(0,(ptr pb1 0)),(6,v1),(7,v2),(8,v3),(9,v4),(10,(I x6)),(11,(ptr b2 0)),(12,v3),(41,(.bool x15)),(44,v4),(46,v1),(47,v2),(48,v3),(50,(ptr pb1 0)),(51,(I x27.1))]) ⟨z,z,z,z,z,z,z,z,z,z,z,z,z,z,z,Aj⟩<|Bq [⟨1,[],fun vs=>Ba (.agg #[(I x12.1.1),v7]),[]⟩,⟨5,[],fun vs=>Ba (.agg #[(I x12.1.1),v7]),[]⟩,⟨8,[],fun vs=>CU x28,[]⟩] [[],[],[5]] 4 z (by kernel_rfl) (by kernel_rfl) z ?_ ?_
     ·refine An z ?_ ?_
      ·intro w23 hB14
       refine At<|⟨_,z,?_⟩
       exact Au [(I x12.1.1),v7] (hC49.grow hB14) 1 z z z Bu AV z z<|Ab<|Aw (Al _ _) z z ⟨z,z⟩
      refine An z ?_ ?_
      ·intro w23 hB14
       refine At<|⟨_,z,?_⟩
       exact Au [(I x12.1.1),v7] (hC49.grow hB14) 1 z z z Bu AV z z<|Ab<|Aw (Al _ _) z z ⟨z,z⟩
      refine An z ?_ ?_
      ·intro w23 hB14
       refine AD z z z ?_
       rintro _ _ ⟨rfl,rfl⟩ _
       refine At<|⟨_,z,?_⟩
       refine AG BN z z (c_S_RespondTo x1.1 v1 ((hC49.grow hB14).ro 4 z) x1.2.1 v2 ((hC49.grow hB14).ro 5 z) x1.2.2.1 v3 ((hC49.grow hB14).ro 6 z) (x12.1.1,x12.1.2) v7 ((hC49.grow hB14).ro 2 z) x27.1 x28 hr14) ?_
       rintro v13 w22 ⟨hB13,F2,hv3,hn8,hb8⟩
       exact Ab<|Db hB13 z z hv3 hn8 hb8 (Val.inh hv3)
      exact Bj
     intro w24 hB15
     refine Ar z z z ?_
     rintro _ _ ⟨rfl,rfl⟩
     refine Ar z z z ?_
     rintro _ _ ⟨rfl,rfl⟩
     refine Ar z z z fun v13 F2 hv3=>Bt fun hn9 hb9=>?_
     have hC50:=hC49.pushL hB15 (Bs:=[Af v13 (x28:(List (Int × (List Int))))]) (Fs:=[F2]) ⟨F2,_,z,hv3,z⟩ (by simpa using hn9) (fun b h=>(hb9 b (by simpa using h)).1)
     refine tk 9 z z (Cd (vs:=[(0,(.agg #[(I x12.1.1),v7])),(1,v13)]) z z (built46_0_1 z (B7 (hC50.ro 0 z))))<|BH (vs:=[(0,(.agg #[(I x12.1.1),v7])),(1,v13)]) z z z (built46_0_1 z (B7 (hC50.ro 0 z)))<|Ab<|oe 10 z<|AC (vs:=[(.agg #[(I x12.1.1),v7,v13])]) hC50 A0 ty46 z z z z (fac z<|fa0) z z fun b4 w25 hC51 hB16=>?_
     have hC52:=hC51.row0 (α:=((Int × (List Int)) × (List (Int × (List Int)))))
     have hC54:=hC52.f2
     have hC55:=hC54.f5
     have hC53:=BO x12.1.1 v7 x12.1.2 v13 x28 hC55
     have hC56:=hC53.row1
     have hC57:=hC56.front 1 z
     dsimp only [List.eraseIdx,List.cons_append,List.nil_append,List.append_nil] at hC57
     have hC58:Ctx Fs.flatten w0 w25 (Af (.slice (some ⟨b4,0,none⟩) 1 1) ([((x12.1.1,x12.1.2),x28)]:List ((Int × (List Int)) × (List (Int × (List Int)))))::[Ag pb1 [u1,(I x27.2.2.1),(I x27.2.2.2)],Ag b2 [(I x12.1.1),v7],Af v4 (x5:(List ((Int × (List Int)) × (List (Int × (List Int)))))),Af v1 (x1.1:(List Int)),Af v2 (x1.2.1:(List (Int × (List Int) × Int × Int × Int))),Af v3 (x1.2.2.1:(List (Int × (List Int))))]):=hC57.rowOwn (by simp [maxLen])
     refine Ab<|be hr12 fun x29 hx3 hr12=>oe 11 z<|By hC58 2 z A0 ty46 z hx3 z z z fun v14 w26 hC59=>?_
     try dsimp only [List.set] at hC59
     refine Ab<|ta 12 z z z<|dn<|?_
     obtain rfl:=Aa hr12
     have hC61:=hC59.f5
     have hC62:=hC61.f5
     have hC63:=hC62.f5
     have hC64:=hC63.f5
     have hC65:=hC64.f4
     have hC66:=hC65.h5
     exact Am (l':=[(0,(ptr pb1 0)),(6,v1),(7,v2),(8,v3),(9,v14),(10,(I x6))]) ⟨z,z,z,z,z,z,Aj⟩<|⟨x27.2.2.1,x27.2.2.2,v14,x29,z,z,hC66⟩
    rintro l5 _ w19 hs5 ⟨x24,x25,v12,x26,rfl,rfl,hC46⟩
    try dsimp only at hL1
    refine AU<|AY hs5<|?_
    clear hs5
    exact Bg<|Ae z z<|BR z z z<|Ad z z<|Ab<|Am (l':=[(0,(ptr pb1 0)),(6,v1),(7,v2),(8,v3),(9,v12),(10,(I (w64 (x6 - 1))))]) ⟨z,z,z,z,z,z,Aj⟩<|⟨k1,A3 _,x24,x25,v12,x26,w64 (x6 - 1),z,hC46,hL1⟩
   replace hL1:=A8 hL1 hc2
   refine B1 (A9 (A9 (Bk ?_)))
   obtain rfl:=Aa hL1
   exact Am (l':=[(0,(ptr pb1 0)),(6,v1),(7,v2),(8,v3),(9,v4)]) ⟨z,z,z,z,z,Aj⟩<|⟨x3,x4,v4,x5,z,z,hC9⟩
 rintro l6 _ w27 hs6 ⟨x7,x8,v5,x9,rfl,rfl,hC67⟩
 try dsimp only at hF
 refine AY hs6 ?_
 clear hs6
 refine A6<|Ac<|Ae z z<|be hF fun x30 hr15 hF=>?_
 obtain ⟨Fs7,hH7,hn10,hF7,hO7,hb10⟩:=AX (As:=[Af v5 (x9:(List ((Int × (List Int)) × (List (Int × (List Int)))))),Af v1 (x1.1:(List Int)),Af v2 (x1.2.1:(List (Int × (List Int) × Int × Int × Int))),Af v3 (x1.2.2.1:(List (Int × (List Int))))]) [Ag pb1 [u1,(I x7),(I x8)]] hC67
 refine AG Co z z (c_S_l1Once pb1 (a1.1,x7,x8) u1 (Bf g1 hC67.keep hF7) 10 hH7 hn10 x30 hr15) ?_
 rintro _ w28 ⟨rfl,hq14⟩
 have hC68:Ctx Fs.flatten w0 w28 [Ag pb1 [u1,(I x30.2.2.1),(I x30.2.2.2)],Af v5 (x9:(List ((Int × (List Int)) × (List (Int × (List Int)))))),Af v1 (x1.1:(List Int)),Af v2 (x1.2.1:(List (Int × (List Int) × Int × Int × Int))),Af v3 (x1.2.2.1:(List (Int × (List Int))))]:=hb10 _ _ hq14
 refine Ab<|be hF fun r6 hr16 hF=>Bi (fun l w=>∃x31:Int,∃x32:Int,∃v15:Value,∃x33:(List ((Int × (List Int)) × (List (Int × (List Int))))),(x31,x32,x33)=r6∧l=[(6,v1),(7,v2),(8,v3),(9,v15)]∧Ctx Fs.flatten w0 w [Ag pb1 [u1,(I x31),(I x32)],Af v15 (x33:(List ((Int × (List Int)) × (List (Int × (List Int)))))),Af v1 (x1.1:(List Int)),Af v2 (x1.2.1:(List (Int × (List Int) × Int × Int × Int))),Af v3 (x1.2.2.1:(List (Int × (List Int))))]) ?_ ?_
 ·refine AE z (fun hc5=>?_) (fun hc5=>?_)
  ·replace hr16:=A7 hr16 hc5
   refine Bg<|Ae z z<|Ae z z<|Ae z z<|be hr16 fun x34 hr17 hr16=>?_
   obtain ⟨Fs8,hH8,hn11,hF8,hO8,hb11⟩:=AX (As:=[Af v5 (x9:(List ((Int × (List Int)) × (List (Int × (List Int)))))),Af v1 (x1.1:(List Int)),Af v2 (x1.2.1:(List (Int × (List Int) × Int × Int × Int))),Af v3 (x1.2.2.1:(List (Int × (List Int))))]) [Ag pb1 [u1,(I x30.2.2.1),(I x30.2.2.2)]] hC68
   refine AG Tryz.call123 z z (c_S_l5AnyAccess pb1 (a1.1,x30.2.2.1,x30.2.2.2) u1 (Bf g1 hC68.keep hF8) x1.2.1 v2 (hO8 2 _ _ _ z) hH8 hn11 x34 hr17) ?_
   rintro v16 w30 ⟨_,rfl,hq15⟩
   have hC70:Ctx Fs.flatten w0 w30 [Af v16 (x34.1:(Int × (List Int))),Ag pb1 [u1,(I x34.2.2.1),(I x34.2.2.2)],Af v5 (x9:(List ((Int × (List Int)) × (List (Int × (List Int)))))),Af v1 (x1.1:(List Int)),Af v2 (x1.2.1:(List (Int × (List Int) × Int × Int × Int))),Af v3 (x1.2.2.1:(List (Int × (List Int))))]:=hb11 _ _ hq15
   obtain ⟨v17,rfl,hC71⟩:=st44_own hC70
   refine Ae z z<|Ae z z<|be hr16 fun x35 hr18 hr16=>have hC72:=hC71.f1;?_
   obtain ⟨Fs9,hH9,hn12,hF9,hO9,hb12⟩:=AX (As:=[Af v17 (x34.1.2:(List Int)),Af v5 (x9:(List ((Int × (List Int)) × (List (Int × (List Int)))))),Af v1 (x1.1:(List Int)),Af v2 (x1.2.1:(List (Int × (List Int) × Int × Int × Int))),Af v3 (x1.2.2.1:(List (Int × (List Int))))]) [Ag pb1 [u1,(I x34.2.2.1),(I x34.2.2.2)]] hC72
   refine AG Tryz.call124 z z (c_S_l2AnyFacts pb1 (a1.1,x34.2.2.1,x34.2.2.2) u1 (Bf g1 hC72.keep hF9) x1.1 v1 (hO9 2 _ _ _ z) hH9 hn12 x35 hr18) ?_
   rintro v18 w31 ⟨_,rfl,hq16⟩
   have hC73:Ctx Fs.flatten w0 w31 [Af v18 (x35.1:(List (Int × (List Int)))),Ag pb1 [u1,(I x35.2.2.1),(I x35.2.2.2)],Af v17 (x34.1.2:(List Int)),Af v5 (x9:(List ((Int × (List Int)) × (List (Int × (List Int)))))),Af v1 (x1.1:(List Int)),Af v2 (x1.2.1:(List (Int × (List Int) × Int × Int × Int))),Af v3 (x1.2.2.1:(List (Int × (List Int))))]:=hb12 _ _ hq16
   refine BH (vs:=[(0,(.agg #[(I x34.1.1),v17])),(1,v18)]) z z z (built46_0_1 z (B7 (hC73.ro 0 z)))<|AC (vs:=[(.agg #[(I x34.1.1),v17,v18])]) hC73 A0 ty46 z z z z (fac z<|fa0) z z fun b5 w32 hC74 hB19=>?_
   have hC75:=hC74.row0 (α:=((Int × (List Int)) × (List (Int × (List Int)))))
   have hC77:=hC75.f2
   have hC78:=hC77.f4
   have hC76:=BO x34.1.1 v17 x34.1.2 v18 x35.1 hC78
   have hC79:=hC76.row1
   have hC80:=hC79.front 1 z
   dsimp only [List.eraseIdx,List.cons_append,List.nil_append,List.append_nil] at hC80
   have hC81:Ctx Fs.flatten w0 w32 (Af (.slice (some ⟨b5,0,none⟩) 1 1) ([((x34.1.1,x34.1.2),x35.1)]:List ((Int × (List Int)) × (List (Int × (List Int)))))::[Ag pb1 [u1,(I x35.2.2.1),(I x35.2.2.2)],Af v5 (x9:(List ((Int × (List Int)) × (List (Int × (List Int)))))),Af v1 (x1.1:(List Int)),Af v2 (x1.2.1:(List (Int × (List Int) × Int × Int × Int))),Af v3 (x1.2.2.1:(List (Int × (List Int))))]):=hC80.rowOwn (by simp [maxLen])
   refine be hr16 fun x36 hx4 hr16=>By hC81 1 z A0 ty46 z hx4 z z z fun v19 w33 hC82=>?_
   try dsimp only [List.set] at hC82
   refine Ad z z<|Ab<|?_
   obtain rfl:=Aa hr16
   exact Am (l':=[(6,v1),(7,v2),(8,v3),(9,v19)]) ⟨z,z,z,z,Aj⟩<|⟨x35.2.2.1,x35.2.2.2,v19,x36,z,z,hC82⟩
  replace hr16:=A8 hr16 hc5
  refine AF ?_
  obtain rfl:=Aa hr16
  exact Am (l':=[(6,v1),(7,v2),(8,v3),(9,v5)]) ⟨z,z,z,z,Aj⟩<|⟨x30.2.2.1,x30.2.2.2,v5,x9,z,z,hC68⟩
 rintro l7 _ w29 hs7 ⟨x31,x32,v15,x33,rfl,rfl,hC69⟩
 try dsimp only at hF
 refine AY hs7 ?_
 clear hs7
 refine Ac<|Ae z z<|Ae z z<|Ae z z<|Ae z z<|Ad z z<|Ad z z<|Ad z z<|Ad z z<|Ab<|AL<|?_
 obtain rfl:=Aa hF
 exact fn_ret4 z z z z z<|have hC84:=hC69.f1;have hC85:=hC84.f4;have hC86:=hC85.f4;have hC87:=hC86.f4;⟨_,z,_,_,_,_,z,hC87⟩
theorem c_S_l1New {w0:World} (a1:(List UInt8)) (u1:Value) (g1:RO [] w0 u1 a1) (rr:((List UInt8) × Int × Int)) (hF:S.l1New a1=some rr) :
 Calls Tryz.prog 65 [u1].toArray w0 fun e w'=>∃v,e=.returned v∧∃q0:Nat,v=(ptr q0 0)∧Ctx [] w0 w' [Ag q0 [u1,(I rr.2.1),(I rr.2.2)]]:=by
 refine Ax Tryz.func65 z z ?_
 have hC0:=A5 w0
 unfold S.l1New at hF
 refine Ac<|Ad z z<|Ab<|Ac<|Ae z z<|Bc BV g1 z z<|Bn z z z<|Ad z z<|Ab<|A6<|Ac<|Ad z z<|Ab<|be hF fun r1 hr1 hF=>Bi (fun l w=>∃x3:Int,x3=r1∧l=[(0,u1),(3,(I x3))]∧Below w0.heap.size w0 w∧Ctx [] w0 w []) ?_ ?_
 ·refine AJ<|wS (l':=[(0,u1),(3,(I (w64 (10101+(List.length a1:Int))))),(4,(I 0))]) ⟨z,z,z,Aj⟩<|B2 (fun k l w=>∃x1:Int,∃x2:Int,l=[(0,u1),(3,(I x1)),(4,(I x2))]∧Below w0.heap.size w0 w∧Ctx [] w0 w []∧S.l1New_l1 a1 k x1 x2=some r1) FUEL ⟨w64 (10101+(List.length a1:Int)),0,z,(Al _ _),hC0,hr1⟩<|?_
  clear hr1
  rintro k1 _ w1 ⟨x1,x2,rfl,hB1,hC1,hL1⟩
  cases k1 with
  | zero=>rw [S.l1New_l1] at hL1; cases hL1
  | succ k1 =>
   rw [S.l1New_l1] at hL1
   refine A6<|be hL1 fun r2 hr2 hL1=>BI (fun l w=>∃x4:Bool,x4=r2∧l=[(0,u1),(3,(I x1)),(4,(I x2)),(15,(.bool x4))]∧Below w1.heap.size w1 w∧Ctx [] w0 w []) ?_ ?_
   ·refine Bg<|Ae z z<|Ae z z<|Bc BV g1 z z<|Bv z z z<|Ae z z<|Bz (fun hc1=>?_) (fun hc1=>?_)
    ·replace hr2:=A7 hr2 hc1
     refine Ah z z<|Ae z z<|Ah z z<|Bv z z z<|AW z z z<|Ab<|?_
     obtain rfl:=Aa hr2
     exact Am (l':=[(0,u1),(3,(I x1)),(4,(I x2)),(15,(.bool (decide (x2 < 4000))))]) ⟨z,z,z,z,Aj⟩<|⟨(decide (x2 < 4000)),z,z,(Al _ _),hC1⟩
    replace hr2:=A8 hr2 hc1
    refine gs z z z z<|gs z z z z<|AZ z z z<|Ab<|?_
    obtain rfl:=Aa hr2
    exact Am (l':=[(0,u1),(3,(I x1)),(4,(I x2)),(15,(.bool false))]) ⟨z,z,z,z,Aj⟩<|⟨false,z,z,(Al _ _),hC1⟩
   rintro _ w2 ⟨x4,rfl,rfl,hB2,hC2⟩
   try dsimp only at hL1
   refine AE z (fun hc2=>?_) (fun hc2=>?_)
   ·replace hL1:=A7 hL1 hc2
    refine AF<|Ap<|A6<|AJ<|Bg<|Ae z z<|WL_mul z z z<|Ae z z<|Ae z z<|be hL1 fun x5 hx1 hL1=>AH BV ty5 g1 hx1 z z z fun b1 o1 h1=>AI ty5 h1 hC2.keep z z fun v1 h2=>?_
    obtain rfl:=ro_u8 h2
    exact WL_conv_i64 CC Cu z z<|Bn z z z<|Bn z z z<|WL_band z z z<|Ad z z<|Ab<|AU<|Ap<|Bg<|Ae z z<|Bn z z z<|Ad z z<|Ab<|Am (l':=[(0,u1),(3,(I (band (w64 ((w64 ((w64 (x1 * 131))+(w64 (UInt8.toNat x5:Int))))+7)) 1073741823))),(4,(I (w64 (x2+1))))]) ⟨z,z,z,Aj⟩<|⟨k1,A3 _,band (w64 ((w64 ((w64 (x1 * 131))+(w64 (UInt8.toNat x5:Int))))+7)) 1073741823,w64 (x2+1),z,((Ao hB1).then hB2).below,hC2,hL1⟩
   replace hL1:=A8 hL1 hc2
   refine B1 (A9 (A9 (Bk ?_)))
   obtain rfl:=Aa hL1
   exact Am (l':=[(0,u1),(3,(I x1))]) ⟨z,z,Aj⟩<|⟨x1,z,z,((Ao hB1).then hB2).below,hC2⟩
 rintro l3 _ w3 hs3 ⟨x3,rfl,rfl,hB3,hC3⟩
 try dsimp only at hF
 refine AY hs3 ?_
 clear hs3
 refine Ac<|Ae z z<|Ae z z<|BH (vs:=[(0,u1),(2,(I x3))]) z z z (built145_0_2 (B7 g1) z)<|Br (cs:=[u1,(I 0),(I x3)]) hC3 z z z fun b2 w4 hC4 hB4 hN1=>Ad z z<|Ab<|AL<|?_
 obtain rfl:=Aa hF
 exact A2 z z<|⟨_,z,_,z,hC4⟩
theorem c_S_DrawFirstConflict {w0:World} (a1:(List UInt8)) (u1:Value) (g1:RO [] w0 u1 a1) (rr:((List Int) × (List (Int × (List Int) × Int × Int × Int)) × (List ((Int × (List Int)) × (List (Int × (List Int))))))) (hF:S.DrawFirstConflict a1=some rr) :
 Calls Tryz.prog 10 [u1].toArray w0 fun e w'=>∃v,e=.returned v∧Res3 w0 rr.1 rr.2.1 rr.2.2 v w':=by
 refine Ax Tryz.func10 z z ?_
 have hC0:=A5 w0
 unfold S.DrawFirstConflict at hF
 refine Ac<|Ad z z<|Ad z z<|Ad z z<|Ab<|Ac<|Ae z z<|be hF fun x1 hr1 hF=>AG C4 z z (c_S_l1New a1 u1 (g1.now hC0.keep) x1 hr1)<|?_
 rintro _ w1 ⟨b1,rfl,hq1⟩
 have hC1:Ctx [] w0 w1 [Ag b1 [u1,(I x1.2.1),(I x1.2.2)]]:=hC0.push2 hq1
 obtain ⟨x2,hr2,hF⟩:=CD hF
 obtain ⟨Fs2,hH2,hn2,hF2,hO2,hb2⟩:=AX (As:=[]) [Ag b1 [u1,(I x1.2.1),(I x1.2.2)]] hC1
 refine AG C5 z z (c_S_l28List b1 (a1,x1.2.1,x1.2.2) u1 (Bf g1 hC1.keep hF2) hH2 hn2 x2 hr2) ?_
 rintro _ w2 ⟨v1,v2,v3,v4,rfl,hq2⟩
 have hC2:Ctx [] w0 w2 [Af v1 (x2.1:(List Int)),Af v2 (x2.2.1:(List (Int × (List Int) × Int × Int × Int))),Af v3 (x2.2.2.1:(List (Int × (List Int)))),Af v4 (x2.2.2.2.1:(List ((Int × (List Int)) × (List (Int × (List Int)))))),Ag b1 [u1,(I x2.2.2.2.2.2.1),(I x2.2.2.2.2.2.2)]]:=hb2 _ _ hq2
 refine Ae z z<|Bh z z z<|Bh z z z<|Bh z z z<|Bh z z z<|Ad z z<|Ad z z<|Ad z z<|Ad z z<|Ab<|Ac<|Ae z z<|Ae z z<|Ae z z<|Ad z z<|Ad z z<|Ad z z<|Ab<|AL<|?_
 obtain rfl:=Aa hF
 exact CG z z z z<|have hC3:=hC2.f3;have hC4:=hC3.f2;have hC5:=hC4.f2;⟨_,z,res3_of hC5⟩
theorem c_M_within {w0:World} (a1:Int) (a2:Int) (a3:Int) (rr:Bool) (hF:M.within a1 a2 a3=some rr) :
 Calls Tryz.prog 147 [(I a1),(I a2),(I a3)].toArray w0 fun e w'=>∃v,e=.returned v∧Res w0 rr v w':=by
 refine Ax Tryz.func147 z z ?_
 have hC0:=A5 w0
 unfold M.within at hF
 refine Ac<|Ad z z<|Ab<|be hF fun r1 hr1 hF=>BI (fun l w=>∃x1:Bool,x1=r1∧l=[(6,(.bool x1))]∧Below w0.heap.size w0 w∧Ctx [] w0 w []) ?_ ?_
 ·refine Bg<|Ae z z<|Ae z z<|Cf z z z<|Ae z z<|Bz (fun hc1=>?_) (fun hc1=>?_)
  ·replace hr1:=A7 hr1 hc1
   refine Ah z z<|Ae z z<|Ah z z<|Ae z z<|Ah z z<|Cp z z z<|AW z z z<|Ad z z<|Ab<|?_
   obtain rfl:=Aa hr1
   exact Am (l':=[(6,(.bool (decide (a1 ≤ a3))))]) ⟨z,Aj⟩<|⟨(decide (a1 ≤ a3)),z,z,(Al _ _),hC0⟩
  replace hr1:=A8 hr1 hc1
  refine gs z z z z<|gs z z z z<|gs z z z z<|AZ z z z<|Ad z z<|Ab<|?_
  obtain rfl:=Aa hr1
  exact Am (l':=[(6,(.bool false))]) ⟨z,Aj⟩<|⟨false,z,z,(Al _ _),hC0⟩
 rintro _ w1 ⟨x1,rfl,rfl,hB1,hC1⟩
 try dsimp only at hF
 refine AL ?_
 obtain rfl:=Aa hF
 exact A2 z z<|⟨_,z,AN hC1 _⟩
theorem c_M_IsSchema_c1 {w0:World} (a1:Int) (rr:Bool) (hF:M.IsSchema_c1 a1=some rr) :
 Calls Tryz.prog 183 [(I a1)].toArray w0 fun e w'=>∃v,e=.returned v∧Res w0 rr v w':=by
 refine Ax Tryz.func183 z z ?_
 have hC0:=A5 w0
 unfold M.IsSchema_c1 at hF
 refine Ac<|Ad z z<|Ab<|Ac<|Ae z z<|be hF fun x1 hr1 hF=>cb BW z z (c_M_within a1 1 3 x1 hr1) fun w1 hB1=>have hC1:=hC0.grow hB1;B3 z z<|Ad z z<|Ab<|AL<|?_
 obtain rfl:=Aa hF
 exact A2 z z<|⟨_,z,AN hC1 _⟩
theorem c_Slices_IndexFunc_Lint_int_M_IsSchema_c1 {w0:World} (a1:(List Int)) (u1:Value) (g1:RO [] w0 u1 a1) (rr:Int) (hF:Slices.IndexFunc_Lint_int_M_IsSchema_c1 a1=some rr) :
 Calls Tryz.prog 205 [u1,(.func (.func 183) #[] #[])].toArray w0 fun e w'=>∃v,e=.returned v∧Res w0 rr v w':=by
 refine Ax CH z z ?_
 have hC0:=A5 w0
 unfold Slices.IndexFunc_Lint_int_M_IsSchema_c1 at hF
 refine Ac<|Ad z z<|Ab<|A6<|Ac<|Ae z z<|Bc Ak g1 z z<|Ae z z<|Ab<|be hF fun r1 hr1 hF=>Bi (fun l w=>.inl ()=r1∧l=[]∧Below w0.heap.size w0 w∧Ctx [] w0 w []) ?_ ?_
 ·refine AJ<|wS (l':=[(0,u1),(1,(.func (.func 183) #[] #[])),(7,(I (List.length a1:Int))),(8,(I 0))]) ⟨z,z,z,z,Aj⟩<|B2 (fun k l w=>∃x1:Int,l=[(0,u1),(1,(.func (.func 183) #[] #[])),(7,(I (List.length a1:Int))),(8,(I x1))]∧Below w0.heap.size w0 w∧Ctx [] w0 w []∧Slices.IndexFunc_Lint_int_M_IsSchema_c1_l1 a1 k x1=some r1) FUEL ⟨0,z,(Al _ _),hC0,hr1⟩<|?_
  clear hr1
  rintro k1 _ w1 ⟨x1,rfl,hB1,hC1,hL1⟩
  cases k1 with
  | zero=>rw [Slices.IndexFunc_Lint_int_M_IsSchema_c1_l1] at hL1; cases hL1
  | succ k1 =>
   rw [Slices.IndexFunc_Lint_int_M_IsSchema_c1_l1] at hL1
   refine Ac<|Bv z z z<|Ab<|A6<|AE z (fun hc1=>?_) (fun hc1=>?_)
   ·replace hL1:=A7 hL1 hc1
    refine AF<|Ap<|A6<|AJ<|Ac<|Ae z z<|Ad z z<|Ab<|Ac<|Ae z z<|Ae z z<|Ae z z<|be hL1 fun x2 hx1 hL1=>AH Ak ty3 g1 hx1 z z z fun b1 o1 h1=>AI ty3 h1 hC1.keep z z fun v1 h2=>?_
    obtain rfl:=B8 h2
    refine be hL1 fun x3 hr2 hL1=>BT (cap:=[]) Tryz.call183 z z z (c_M_IsSchema_c1 x2 x3 hr2) fun _ w2 hv1=>?_
    obtain ⟨rfl,hB2⟩:=BU hv1
    have hC2:=hC1.grow hB2
    refine Ab<|AE z (fun hc2=>?_) (fun hc2=>?_)
    ·replace hL1:=A7 hL1 hc2
     refine Ac<|Ae z z<|Ad z z<|Ab<|AL<|Bd<|Av<|Av<|Bd<|Av<|Av<|?_
     obtain rfl:=Aa hL1
     dsimp only at hF
     obtain rfl:=Aa hF
     exact A2 z z<|⟨_,z,B4 hC2 _⟩
    replace hL1:=A8 hL1 hc2
    exact AF<|AU<|Ap<|Bg<|Bn z z z<|Ae z z<|Ab<|Am (l':=[(0,u1),(1,(.func (.func 183) #[] #[])),(7,(I (List.length a1:Int))),(8,(I (w64 (x1+1))))]) ⟨z,z,z,z,Aj⟩<|⟨k1,A3 _,w64 (x1+1),z,((Ao hB1).then hB2).below,hC2,hL1⟩
   replace hL1:=A8 hL1 hc1
   refine B1 (A9 (A9 (Bk ?_)))
   obtain rfl:=Aa hL1
   exact Am (l':=[]) Aj<|⟨z,z,(Ao hB1).below,hC1⟩
 rintro l2 _ w3 hs2 ⟨rfl,rfl,hB3,hC3⟩
 try dsimp only at hF
 refine AY hs2 ?_
 clear hs2
 refine Ac<|Ad z z<|Ab<|AL<|?_
 obtain rfl:=Aa hF
 exact A2 z z<|⟨_,z,B4 hC3 _⟩
theorem c_Slices_ContainsFunc_Lint_int_M_IsSchema_c1 {w0:World} (a1:(List Int)) (u1:Value) (g1:RO [] w0 u1 a1) (rr:Bool) (hF:Slices.ContainsFunc_Lint_int_M_IsSchema_c1 a1=some rr) :
 Calls Tryz.prog 182 [u1,(.func (.func 183) #[] #[])].toArray w0 fun e w'=>∃v,e=.returned v∧Res w0 rr v w':=by
 refine Ax CI z z ?_
 have hC0:=A5 w0
 unfold Slices.ContainsFunc_Lint_int_M_IsSchema_c1 at hF
 refine Ac<|Ad z z<|Ab<|Ac<|Ae z z<|Ae z z<|be hF fun x1 hr1 hF=>ci CJ z z (c_Slices_IndexFunc_Lint_int_M_IsSchema_c1 a1 u1 (g1.now hC0.keep) x1 hr1) fun w1 hB1=>have hC1:=hC0.grow hB1;Cf z z z<|Ad z z<|Ab<|AL<|?_
 obtain rfl:=Aa hF
 exact A2 z z<|⟨_,z,AN hC1 _⟩
theorem c_M_IsSchema {w0:World} (a1:(List Int)) (u1:Value) (g1:RO [] w0 u1 a1) (rr:Bool) (hF:M.IsSchema a1=some rr) :
 Calls Tryz.prog 132 [u1].toArray w0 fun e w'=>∃v,e=.returned v∧Res w0 rr v w':=by
 refine Ax Tryz.func132 z z ?_
 have hC0:=A5 w0
 unfold M.IsSchema at hF
 refine Ac<|Ad z z<|Ab<|be hF fun r1 hr1 hF=>BI (fun l w=>∃x1:Bool,x1=r1∧l=[(2,(.bool x1))]∧Below w0.heap.size w0 w∧Ctx [] w0 w []) ?_ ?_
 ·refine Bg<|Ae z z<|Bc Ak g1 z z<|be hr1 fun x2 hr2 hr1=>cb BW z z (c_M_within (List.length a1:Int) 1 3 x2 hr2) fun w2 hB2=>have hC2:=hC0.grow hB2;Ae z z<|Bz (fun hc1=>?_) (fun hc1=>?_)
  ·replace hr1:=A7 hr1 hc1
   refine Ah z z<|Ae z z<|be hr1 fun x3 hr3 hr1=>Ah z z<|cb CK z z (c_Slices_ContainsFunc_Lint_int_M_IsSchema_c1 a1 u1 (g1.now hC2.keep) x3 hr3) fun w3 hB3=>have hC3:=hC2.grow hB3;Ah z z<|B3 z z<|AW z z z<|Ad z z<|Ab<|?_
   obtain rfl:=Aa hr1
   exact Am (l':=[(2,(.bool (!x3)))]) ⟨z,Aj⟩<|⟨(!x3),z,z,((Ao hB2).then hB3).below,hC3⟩
  replace hr1:=A8 hr1 hc1
  refine gs z z z z<|gs z z z z<|gs z z z z<|AZ z z z<|Ad z z<|Ab<|?_
  obtain rfl:=Aa hr1
  exact Am (l':=[(2,(.bool false))]) ⟨z,Aj⟩<|⟨false,z,z,(Ao hB2).below,hC2⟩
 rintro _ w1 ⟨x1,rfl,rfl,hB1,hC1⟩
 try dsimp only at hF
 refine AL ?_
 obtain rfl:=Aa hF
 exact A2 z z<|⟨_,z,AN hC1 _⟩
theorem c_M_hasRel {w0:World} (a1:(List Int)) (u1:Value) (g1:RO [] w0 u1 a1) (a2:Int) (rr:Bool) (hF:M.hasRel a1 a2=some rr) :
 Calls Tryz.prog 185 [u1,(I a2)].toArray w0 fun e w'=>∃v,e=.returned v∧Res w0 rr v w':=by
 refine Ax Tryz.func185 z z ?_
 have hC0:=A5 w0
 unfold M.hasRel at hF
 refine Ac<|Ad z z<|Ab<|be hF fun r1 hr1 hF=>BI (fun l w=>∃x1:Bool,x1=r1∧l=[(4,(.bool x1))]∧Below w0.heap.size w0 w∧Ctx [] w0 w []) ?_ ?_
 ·refine Bg<|Ae z z<|be hr1 fun x2 hr2 hr1=>cb CL z z (c_M_IsSchema a1 u1 (g1.now hC0.keep) x2 hr2) fun w2 hB2=>have hC2:=hC0.grow hB2;Ae z z<|Bz (fun hc1=>?_) (fun hc1=>?_)
  ·replace hr1:=A7 hr1 hc1
   refine Ah z z<|Ae z z<|Ah z z<|Ae z z<|Ah z z<|Bc Ak g1 z z<|Ah z z<|BR z z z<|be hr1 fun x3 hr3 hr1=>Ah z z<|cb BW z z (c_M_within a2 0 (w64 ((List.length a1:Int) - 1)) x3 hr3) fun w3 hB3=>have hC3:=hC2.grow hB3;AW z z z<|Ad z z<|Ab<|?_
   obtain rfl:=Aa hr1
   exact Am (l':=[(4,(.bool x3))]) ⟨z,Aj⟩<|⟨x3,z,z,((Ao hB2).then hB3).below,hC3⟩
  replace hr1:=A8 hr1 hc1
  refine gs z z z z<|gs z z z z<|gs z z z z<|gs z z z z<|gs z z z z<|AZ z z z<|Ad z z<|Ab<|?_
  obtain rfl:=Aa hr1
  exact Am (l':=[(4,(.bool false))]) ⟨z,Aj⟩<|⟨false,z,z,(Ao hB2).below,hC2⟩
 rintro _ w1 ⟨x1,rfl,rfl,hB1,hC1⟩
 try dsimp only at hF
 refine AL ?_
 obtain rfl:=Aa hF
 exact A2 z z<|⟨_,z,AN hC1 _⟩
theorem c_M_ascending {w0:World} (a1:(List Int)) (u1:Value) (g1:RO [] w0 u1 a1) (rr:Bool) (hF:M.ascending a1=some rr) :
 Calls Tryz.prog 206 [u1].toArray w0 fun e w'=>∃v,e=.returned v∧Res w0 rr v w':=by
 refine Ax Tryz.func206 z z ?_
 have hC0:=A5 w0
 unfold M.ascending at hF
 refine Ac<|Ad z z<|Ab<|A6<|Ac<|Ae z z<|Bc Ak g1 z z<|Ae z z<|Ab<|be hF fun r1 hr1 hF=>Bi (fun l w=>.inl ()=r1∧l=[]∧Below w0.heap.size w0 w∧Ctx [] w0 w []) ?_ ?_
 ·refine AJ<|wS (l':=[(0,u1),(5,(I (List.length a1:Int))),(6,(I 0))]) ⟨z,z,z,Aj⟩<|B2 (fun k l w=>∃x1:Int,l=[(0,u1),(5,(I (List.length a1:Int))),(6,(I x1))]∧Below w0.heap.size w0 w∧Ctx [] w0 w []∧M.ascending_l1 a1 k x1=some r1) FUEL ⟨0,z,(Al _ _),hC0,hr1⟩<|?_
  clear hr1
  rintro k1 _ w1 ⟨x1,rfl,hB1,hC1,hL1⟩
  cases k1 with
  | zero=>rw [M.ascending_l1] at hL1; cases hL1
  | succ k1 =>
   rw [M.ascending_l1] at hL1
   refine Ac<|Bv z z z<|Ab<|A6<|AE z (fun hc1=>?_) (fun hc1=>?_)
   ·replace hL1:=A7 hL1 hc1
    refine AF<|Ap<|A6<|AJ<|Ac<|Ae z z<|Ad z z<|Ab<|be hL1 fun r2 hr2 hL1=>BI (fun l w=>∃x2:Bool,x2=r2∧l=[(0,u1),(5,(I (List.length a1:Int))),(6,(I x1)),(22,(.bool x2))]∧Below w1.heap.size w1 w∧Ctx [] w0 w []) ?_ ?_
    ·refine W_drawn 14 z hmix fun w3 hB3=>have hC3:=hC1.grow hB3;tm 0 z z z<|tk 1 z z (Dd z z)<|Ca z z z<|Ab<|tm 2 z z z<|BC (fun hc2=>?_) (fun hc2=>?_)
     ·replace hr2:=A7 hr2 hc2
      refine tn 3 z z z z z<|tn 4 z z z z z<|be hr2 fun x3 hx1 hr2=>tg 5 z z z z (BG Ak ty3 g1 hx1 z z)<|Ah z z<|AH Ak ty3 g1 hx1 z z z fun b1 o1 h1=>Ab<|tn 7 z z z z z<|tn 8 z z z z z<|tg 9 z z z z (Ct z z)<|Ah z z<|BR z z z<|Ab<|be hr2 fun x4 hx2 hr2=>tg 10 z z z z (BG Ak ty3 g1 hx2 z z)<|Ah z z<|AH Ak ty3 g1 hx2 z z z fun b2 o2 h2=>Ab<|wAS (l':=[(0,u1),(3,(I x1)),(5,(I (List.length a1:Int))),(6,(I x1)),(7,(.bool (decide (x1 < (List.length a1:Int))))),(8,(I x1)),(9,(I x1)),(10,(.bool (decide (0 < x1)))),(11,(.bool true)),(12,u1),(13,(I x1)),(14,(ptr b1 o1)),(16,u1),(17,(I x1)),(18,(I (w64 (x1 - 1)))),(19,(ptr b2 o2))]) ⟨z,z,z,z,z,z,z,z,z,z,z,z,z,z,z,z,Aj⟩<|Bq [⟨6,[],fun vs=>Ba (I x3),[]⟩,⟨11,[],fun vs=>Ba (I x4),[]⟩] [[],[]] 2 z (by kernel_rfl) (by kernel_rfl) z ?_ ?_
      ·refine An z ?_ ?_
       ·intro w4 hB4
        refine At<|⟨_,z,?_⟩
        refine Ah z z<|AI ty3 h1 (hC3.keep.then hB4) z z fun v1 h3=>?_
        obtain rfl:=B8 h3
        exact Ab<|Aw (Al _ _) z z ⟨z,z⟩
       refine An z ?_ ?_
       ·intro w4 hB4
        refine At<|⟨_,z,?_⟩
        refine Ah z z<|AI ty3 h2 (hC3.keep.then hB4) z z fun v2 h4=>?_
        obtain rfl:=B8 h4
        exact Ab<|Aw (Al _ _) z z ⟨z,z⟩
       exact Bj
      intro w5 hB5
      refine Ar z z z ?_
      rintro _ _ ⟨rfl,rfl⟩
      refine Ar z z z ?_
      rintro _ _ ⟨rfl,rfl⟩
      refine Bt fun hn1 hb1=>have hC4:=hC3.grow hB5;tg 12 z z z z (fl_leq z z)<|Ah z z<|Cp z z z<|Ab<|tp 13 z z z z<|dn<|?_
      obtain rfl:=Aa hr2
      exact Am (l':=[(0,u1),(5,(I (List.length a1:Int))),(6,(I x1)),(22,(.bool (decide (x3 ≤ x4))))]) ⟨z,z,z,z,Aj⟩<|⟨(decide (x3 ≤ x4)),z,z,((Ao hB3).then hB5).below,hC4⟩
     replace hr2:=A8 hr2 hc2
     refine sk 3 z z z z z<|sk 4 z z z z z<|sk 5 z z z z z<|sk 6 z z z z z<|sk 7 z z z z z<|sk 8 z z z z z<|sk 9 z z z z z<|sk 10 z z z z z<|sk 11 z z z z z<|sk 12 z z z z z<|tq 13 z z z z<|dn<|?_
     obtain rfl:=Aa hr2
     exact Am (l':=[(0,u1),(5,(I (List.length a1:Int))),(6,(I x1)),(22,(.bool false))]) ⟨z,z,z,z,Aj⟩<|⟨false,z,z,(Ao hB3).below,hC3⟩
    rintro _ w2 ⟨x2,rfl,rfl,hB2,hC2⟩
    try dsimp only at hL1
    refine AE z (fun hc3=>?_) (fun hc3=>?_)
    ·replace hL1:=A7 hL1 hc3
     refine Ac<|Ad z z<|Ab<|AL<|Bd<|Av<|Av<|Bd<|Av<|Av<|?_
     obtain rfl:=Aa hL1
     dsimp only at hF
     obtain rfl:=Aa hF
     exact A2 z z<|⟨_,z,AN hC2 _⟩
    replace hL1:=A8 hL1 hc3
    exact AF<|AU<|Ap<|Bg<|Bn z z z<|Ae z z<|Ab<|Am (l':=[(0,u1),(5,(I (List.length a1:Int))),(6,(I (w64 (x1+1))))]) ⟨z,z,z,Aj⟩<|⟨k1,A3 _,w64 (x1+1),z,((Ao hB1).then hB2).below,hC2,hL1⟩
   replace hL1:=A8 hL1 hc1
   refine B1 (A9 (A9 (Bk ?_)))
   obtain rfl:=Aa hL1
   exact Am (l':=[]) Aj<|⟨z,z,(Ao hB1).below,hC1⟩
 rintro l3 _ w6 hs3 ⟨rfl,rfl,hB6,hC5⟩
 try dsimp only at hF
 refine AY hs3 ?_
 clear hs3
 refine Ac<|Ad z z<|Ab<|AL<|?_
 obtain rfl:=Aa hF
 exact A2 z z<|⟨_,z,AN hC5 _⟩
theorem c_M_Method_fits_c1 {w0:World} (a1:Int) (pb1:Nat) (ax1:Int) (g1:ROAt [] w0 pb1 0 ax1) (rr:Bool) (hF:M.Method_fits_c1 a1 ax1=some rr) :
 Calls Tryz.prog 207 [(I a1),(ptr pb1 0)].toArray w0 fun e w'=>∃v,e=.returned v∧Res w0 rr v w':=by
 refine Ax Tryz.func207 z z ?_
 have hC0:=A5 w0
 unfold M.Method_fits_c1 at hF
 refine Ac<|Ad z z<|Ab<|Ac<|Ae z z<|AI ty3 g1 hC0.keep z z fun v1 h1=>?_
 obtain rfl:=B8 h1
 refine BR z z z<|be hF fun x1 hr1 hF=>cb BW z z (c_M_within a1 0 (w64 (ax1 - 1)) x1 hr1) fun w1 hB1=>have hC1:=hC0.grow hB1;B3 z z<|Ad z z<|Ab<|AL<|?_
 obtain rfl:=Aa hF
 exact A2 z z<|⟨_,z,AN hC1 _⟩
theorem c_M_isCost {w0:World} (a1:Int) (rr:Bool) (hF:M.isCost a1=some rr) :
 Calls Tryz.prog 208 [(I a1)].toArray w0 fun e w'=>∃v,e=.returned v∧Res w0 rr v w':=by
 refine Ax Tryz.func208 z z ?_
 have hC0:=A5 w0
 unfold M.isCost at hF
 refine Ac<|Ad z z<|Ab<|Ac<|Ae z z<|be hF fun x1 hr1 hF=>cb BW z z (c_M_within a1 0 99 x1 hr1) fun w1 hB1=>have hC1:=hC0.grow hB1;Ad z z<|Ab<|AL<|?_
 obtain rfl:=Aa hF
 exact A2 z z<|⟨_,z,AN hC1 _⟩
theorem c_Slices_IndexFunc_Lint_int_M_Method_fits_c1 {w0:World} (a1:(List Int)) (u1:Value) (g1:RO [] w0 u1 a1) (pb1:Nat) (ax1:Int) (g2:ROAt [] w0 pb1 0 ax1) (rr:Int) (hF:Slices.IndexFunc_Lint_int_M_Method_fits_c1 a1 ax1=some rr) :
 Calls Tryz.prog 205 [u1,(.func (.func 207) #[] #[(ptr pb1 0)])].toArray w0 fun e w'=>∃v,e=.returned v∧Res w0 rr v w':=by
 refine Ax CH z z ?_
 have hC0:=A5 w0
 unfold Slices.IndexFunc_Lint_int_M_Method_fits_c1 at hF
 refine Ac<|Ad z z<|Ab<|A6<|Ac<|Ae z z<|Bc Ak g1 z z<|Ae z z<|Ab<|be hF fun r1 hr1 hF=>Bi (fun l w=>.inl ()=r1∧l=[]∧Below w0.heap.size w0 w∧Ctx [] w0 w []) ?_ ?_
 ·refine AJ<|wS (l':=[(0,u1),(1,(.func (.func 207) #[] #[(ptr pb1 0)])),(7,(I (List.length a1:Int))),(8,(I 0))]) ⟨z,z,z,z,Aj⟩<|B2 (fun k l w=>∃x1:Int,l=[(0,u1),(1,(.func (.func 207) #[] #[(ptr pb1 0)])),(7,(I (List.length a1:Int))),(8,(I x1))]∧Below w0.heap.size w0 w∧Ctx [] w0 w []∧Slices.IndexFunc_Lint_int_M_Method_fits_c1_l1 a1 ax1 k x1=some r1) FUEL ⟨0,z,(Al _ _),hC0,hr1⟩<|?_
  clear hr1
  rintro k1 _ w1 ⟨x1,rfl,hB1,hC1,hL1⟩
  cases k1 with
  | zero=>rw [Slices.IndexFunc_Lint_int_M_Method_fits_c1_l1] at hL1; cases hL1
  | succ k1 =>
   rw [Slices.IndexFunc_Lint_int_M_Method_fits_c1_l1] at hL1
   refine Ac<|Bv z z z<|Ab<|A6<|AE z (fun hc1=>?_) (fun hc1=>?_)
   ·replace hL1:=A7 hL1 hc1
    refine AF<|Ap<|A6<|AJ<|Ac<|Ae z z<|Ad z z<|Ab<|Ac<|Ae z z<|Ae z z<|Ae z z<|be hL1 fun x2 hx1 hL1=>AH Ak ty3 g1 hx1 z z z fun b1 o1 h1=>AI ty3 h1 hC1.keep z z fun v1 h2=>?_
    obtain rfl:=B8 h2
    refine be hL1 fun x3 hr2 hL1=>BT (cap:=[(ptr pb1 0)]) Tryz.call207 z z z (c_M_Method_fits_c1 x2 pb1 ax1 (g2.now hC1.keep) x3 hr2) fun _ w2 hv1=>?_
    obtain ⟨rfl,hB2⟩:=BU hv1
    have hC2:=hC1.grow hB2
    refine Ab<|AE z (fun hc2=>?_) (fun hc2=>?_)
    ·replace hL1:=A7 hL1 hc2
     refine Ac<|Ae z z<|Ad z z<|Ab<|AL<|Bd<|Av<|Av<|Bd<|Av<|Av<|?_
     obtain rfl:=Aa hL1
     dsimp only at hF
     obtain rfl:=Aa hF
     exact A2 z z<|⟨_,z,B4 hC2 _⟩
    replace hL1:=A8 hL1 hc2
    exact AF<|AU<|Ap<|Bg<|Bn z z z<|Ae z z<|Ab<|Am (l':=[(0,u1),(1,(.func (.func 207) #[] #[(ptr pb1 0)])),(7,(I (List.length a1:Int))),(8,(I (w64 (x1+1))))]) ⟨z,z,z,z,Aj⟩<|⟨k1,A3 _,w64 (x1+1),z,((Ao hB1).then hB2).below,hC2,hL1⟩
   replace hL1:=A8 hL1 hc1
   refine B1 (A9 (A9 (Bk ?_)))
   obtain rfl:=Aa hL1
   exact Am (l':=[]) Aj<|⟨z,z,(Ao hB1).below,hC1⟩
 rintro l2 _ w3 hs2 ⟨rfl,rfl,hB3,hC3⟩
 try dsimp only at hF
 refine AY hs2 ?_
 clear hs2
 refine Ac<|Ad z z<|Ab<|AL<|?_
 obtain rfl:=Aa hF
 exact A2 z z<|⟨_,z,B4 hC3 _⟩
theorem c_Slices_ContainsFunc_Lint_int_M_Method_fits_c1 {w0:World} (a1:(List Int)) (u1:Value) (g1:RO [] w0 u1 a1) (pb1:Nat) (ax1:Int) (g2:ROAt [] w0 pb1 0 ax1) (rr:Bool) (hF:Slices.ContainsFunc_Lint_int_M_Method_fits_c1 a1 ax1=some rr) :
 Calls Tryz.prog 182 [u1,(.func (.func 207) #[] #[(ptr pb1 0)])].toArray w0 fun e w'=>∃v,e=.returned v∧Res w0 rr v w':=by
 refine Ax CI z z ?_
 have hC0:=A5 w0
 unfold Slices.ContainsFunc_Lint_int_M_Method_fits_c1 at hF
 refine Ac<|Ad z z<|Ab<|Ac<|Ae z z<|Ae z z<|be hF fun x1 hr1 hF=>ci CJ z z (c_Slices_IndexFunc_Lint_int_M_Method_fits_c1 a1 u1 (g1.now hC0.keep) pb1 ax1 (g2.now hC0.keep) x1 hr1) fun w1 hB1=>have hC1:=hC0.grow hB1;Cf z z z<|Ad z z<|Ab<|AL<|?_
 obtain rfl:=Aa hF
 exact A2 z z<|⟨_,z,AN hC1 _⟩
theorem c_M_Method_fits {w0:World} (a1:(Int × (List Int) × Int × Int × Int)) (u1:Value) (g1:RO [] w0 u1 a1.2.1) (a2:Int) (rr:Bool) (hF:M.Method_fits a1 a2=some rr) :
 Calls Tryz.prog 186 [(.agg #[(I a1.1),u1,(I a1.2.2.1),(I a1.2.2.2.1),(I a1.2.2.2.2)]),(I a2)].toArray w0 fun e w'=>∃v,e=.returned v∧Res w0 rr v w':=by
 refine Ax Tryz.func186 z z ?_
 have hC0:=A5 w0
 unfold M.Method_fits at hF
 refine Ac<|Br (cs:=[(I a1.1),u1,(I a1.2.2.1),(I a1.2.2.2.1),(I a1.2.2.2.2)]) hC0 z z z fun b1 w1 hC1 hB1 hN1=>Br (cs:=[(I a2)]) hC1 z z z fun b2 w2 hC2 hB2 hN2=>Ad z z<|Ab<|be hF fun r1 hr1 hF=>BI (fun l w=>∃x1:Bool,x1=r1∧l=[(4,(.bool x1))]∧Below w2.heap.size w2 w∧Ctx [] w0 w []) ?_ ?_
 ·refine Bg<|fd AB Az z z z z<|Aq hC2 1 z z AM z z<|be hr1 fun x2 hr2 hr1=>cb Tryz.call206 z z (c_M_ascending a1.2.1 u1 (g1.now hC2.keep) x2 hr2) fun w4 hB4=>have hC4:=hC2.grow hB4;Ae z z<|Bz (fun hc1=>?_) (fun hc1=>?_)
  ·replace hr1:=A7 hr1 hc1
   refine Ah z z<|fd AB Az z z z z<|Ah z z<|Aq hC4 1 z z AM z z<|Ah z z<|BP z z<|be hr1 fun x3 hr3 hr1=>Ah z z<|cb CK z z (c_Slices_ContainsFunc_Lint_int_M_Method_fits_c1 a1.2.1 u1 (g1.now hC4.keep) b2 a2 (hC4.boxAt 0 z repw_int) x3 hr3) fun w5 hB5=>have hC5:=hC4.grow hB5;Ah z z<|B3 z z<|AW z z z<|Ae z z<|Bz (fun hc2=>?_) (fun hc2=>?_)
   ·replace hr1:=A7 hr1 hc2
    refine Ah z z<|fd AB Ay z z z z<|Ah z z<|Aq hC5 1 z z AR z z<|be hr1 fun x4 hr4 hr1=>Ah z z<|cb BW z z (c_M_within a1.2.2.1 0 9 x4 hr4) fun w6 hB6=>have hC6:=hC5.grow hB6;AW z z z<|Ae z z<|Bz (fun hc3=>?_) (fun hc3=>?_)
    ·replace hr1:=A7 hr1 hc3
     refine Ah z z<|fd AB Ay z z z z<|Ah z z<|Aq hC6 1 z z AR z z<|be hr1 fun x5 hr5 hr1=>Ah z z<|cb Tryz.call208 z z (c_M_isCost a1.2.2.2.1 x5 hr5) fun w7 hB7=>have hC7:=hC6.grow hB7;AW z z z<|Ae z z<|Bz (fun hc4=>?_) (fun hc4=>?_)
     ·replace hr1:=A7 hr1 hc4
      refine Ah z z<|fd AB Ay z z z z<|Ah z z<|Aq hC7 1 z z AR z z<|be hr1 fun x6 hr6 hr1=>Ah z z<|cb BW z z (c_M_within a1.2.2.2.2 1 99 x6 hr6) fun w9 hB8=>have hC8:=hC7.grow hB8;AW z z z<|Ad z z<|Ab<|?_
      obtain rfl:=Aa hr1
      have hC9:=hC8.h0
      exact Am (l':=[(4,(.bool x6))]) ⟨z,Aj⟩<|⟨x6,z,z,(((((Ao hB4).then hB5).then hB6).then hB7).then hB8).below,hC9⟩
     replace hr1:=A8 hr1 hc4
     refine gs z z z z<|gs z z z z<|gs z z z z<|AZ z z z<|Ad z z<|Ab<|?_
     obtain rfl:=Aa hr1
     have hC10:=hC7.h0
     exact Am (l':=[(4,(.bool false))]) ⟨z,Aj⟩<|⟨false,z,z,((((Ao hB4).then hB5).then hB6).then hB7).below,hC10⟩
    replace hr1:=A8 hr1 hc3
    refine gs z z z z<|gs z z z z<|gs z z z z<|AZ z z z<|Ae z z<|gs z z z z<|gs z z z z<|gs z z z z<|AZ z z z<|Ad z z<|Ab<|?_
    obtain rfl:=Aa hr1
    have hC11:=hC6.h0
    exact Am (l':=[(4,(.bool false))]) ⟨z,Aj⟩<|⟨false,z,z,(((Ao hB4).then hB5).then hB6).below,hC11⟩
   replace hr1:=A8 hr1 hc2
   refine gs z z z z<|gs z z z z<|gs z z z z<|AZ z z z<|Ae z z<|gs z z z z<|gs z z z z<|gs z z z z<|AZ z z z<|Ae z z<|gs z z z z<|gs z z z z<|gs z z z z<|AZ z z z<|Ad z z<|Ab<|?_
   obtain rfl:=Aa hr1
   have hC12:=hC5.h0
   exact Am (l':=[(4,(.bool false))]) ⟨z,Aj⟩<|⟨false,z,z,((Ao hB4).then hB5).below,hC12⟩
  replace hr1:=A8 hr1 hc1
  refine gs z z z z<|gs z z z z<|gs z z z z<|gs z z z z<|gs z z z z<|AZ z z z<|Ae z z<|gs z z z z<|gs z z z z<|gs z z z z<|AZ z z z<|Ae z z<|gs z z z z<|gs z z z z<|gs z z z z<|AZ z z z<|Ae z z<|gs z z z z<|gs z z z z<|gs z z z z<|AZ z z z<|Ad z z<|Ab<|?_
  obtain rfl:=Aa hr1
  have hC13:=hC4.h0
  exact Am (l':=[(4,(.bool false))]) ⟨z,Aj⟩<|⟨false,z,z,(Ao hB4).below,hC13⟩
 rintro _ w3 ⟨x1,rfl,rfl,hB3,hC3⟩
 try dsimp only at hF
 refine AL ?_
 obtain rfl:=Aa hF
 exact A2 z z<|⟨_,z,AN hC3 _⟩
theorem c_M_IsMethod {w0:World} (a1:(List Int)) (u1:Value) (g1:RO [] w0 u1 a1) (a2:(Int × (List Int) × Int × Int × Int)) (u2:Value) (g2:RO [] w0 u2 a2.2.1) (rr:Bool) (hF:M.IsMethod a1 a2=some rr) :
 Calls Tryz.prog 135 [u1,(.agg #[(I a2.1),u2,(I a2.2.2.1),(I a2.2.2.2.1),(I a2.2.2.2.2)])].toArray w0 fun e w'=>∃v,e=.returned v∧Res w0 rr v w':=by
 refine Ax Tryz.func135 z z ?_
 have hC0:=A5 w0
 unfold M.IsMethod at hF
 refine Ac<|Br (cs:=[(I a2.1),u2,(I a2.2.2.1),(I a2.2.2.2.1),(I a2.2.2.2.2)]) hC0 z z z fun b1 w1 hC1 hB1 hN1=>Ad z z<|Ab<|be hF fun r1 hr1 hF=>BI (fun l w=>∃x1:Bool,x1=r1∧l=[(4,(.bool x1))]∧Below w1.heap.size w1 w∧Ctx [] w0 w []) ?_ ?_
 ·refine W_drawn 14 z hmix fun w3 hB3=>have hC3:=hC1.grow hB3;tm 0 z z z<|tf 1 AB Ay z z z z z<|oe 2 z<|Aq hC3 0 z z AR z z<|Ab<|be hr1 fun x2 hr2 hr1=>oe 3 z<|cb CM z z (c_M_hasRel a1 u1 (g1.now hC3.keep) a2.1 x2 hr2) fun w4 hB4=>have hC4:=hC3.grow hB4;Ab<|tm 4 z z z<|BC (fun hc1=>?_) (fun hc1=>?_)
  ·replace hr1:=A7 hr1 hc1
   refine tn 6 z z z z z<|tg 7 z z z z (BB AB z z (fun w=>⟨_,Ay w⟩) z)<|Ah z z<|fd AB Ay z z z z<|Ab<|be hr1 fun x3 hx1 hr1=>wAS (l':=[(0,u1),(1,(.agg #[(I a2.1),u2,(I a2.2.2.1),(I a2.2.2.2.1),(I a2.2.2.2.2)])),(3,(ptr b1 0)),(4,(.bool false)),(5,u1),(6,(ptr b1 0)),(7,(I a2.1)),(8,(.bool x2)),(9,(.bool true)),(11,u1),(12,(ptr b1 0))]) ⟨z,z,z,z,z,z,z,z,z,z,z,Aj⟩<|Bq [⟨5,[],fun vs=>Ba (.agg #[(I a2.1),u2,(I a2.2.2.1),(I a2.2.2.2.1),(I a2.2.2.2.2)]),[]⟩,⟨8,[],fun vs=>Ba (I a2.1),[]⟩,⟨9,[],fun vs=>BZ [] w0 x3,[]⟩,⟨10,[],fun vs=>Ba (I x3),[]⟩] [[],[],[8],[9]] 3 z (by kernel_rfl) (by kernel_rfl) z ?_ ?_
   ·refine An z ?_ ?_
    ·intro w5 hB5
     refine At<|⟨_,z,?_⟩
     exact Ah z z<|Au [(I a2.1),u2,(I a2.2.2.1),(I a2.2.2.2.1),(I a2.2.2.2.2)] (hC4.grow hB5) 0 z z z BQ B6 z z<|Ab<|Aw (Al _ _) z z ⟨z,z⟩
    refine An z ?_ ?_
    ·intro w5 hB5
     refine At<|⟨_,z,?_⟩
     exact Ah z z<|Aq (hC4.grow hB5) 0 z z AR z z<|Ab<|Aw (Al _ _) z z ⟨z,z⟩
    refine An z ?_ ?_
    ·intro w5 hB5
     refine AD z z z ?_
     rintro _ _ ⟨rfl,rfl⟩ _
     refine At<|⟨_,z,?_⟩
     exact Ah z z<|AH Ak ty3 g1 hx1 z z z fun b2 o1 h1=>Ab<|Aw (Al _ _) z z ⟨z,_,_,z,h1⟩
    refine An z ?_ ?_
    ·intro w5 hB5
     refine AD z z z ?_
     rintro _ _ ⟨rfl,b2,o1,rfl,h1⟩ _
     refine At<|⟨_,z,?_⟩
     refine Ah z z<|AI ty3 h1 (hC4.keep.then hB5) z z fun v1 h2=>?_
     obtain rfl:=B8 h2
     exact Ab<|Aw (Al _ _) z z ⟨z,z⟩
    exact Bj
   intro w6 hB6
   refine Ar z z z ?_
   rintro _ _ ⟨rfl,rfl⟩
   refine Ar z z z ?_
   rintro _ _ ⟨rfl,rfl⟩
   refine Ar z z z ?_
   rintro _ _ ⟨rfl,b2,o1,rfl,h1⟩
   refine Ar z z z ?_
   rintro _ _ ⟨rfl,rfl⟩
   refine Bt fun hn1 hb1=>have hC5:=hC4.grow hB6;be hr1 fun x4 hr3 hr1=>oe 11 z<|Ah z z<|cb Tryz.call186 z z (c_M_Method_fits (a2.1,a2.2.1,a2.2.2.1,a2.2.2.2.1,a2.2.2.2.2) u2 (g2.now hC5.keep) x3 x4 hr3) fun w7 hB7=>have hC6:=hC5.grow hB7;Ab<|tp 12 z z z z<|ta 13 z z z<|dn<|?_
   obtain rfl:=Aa hr1
   have hC7:=hC6.h0
   exact Am (l':=[(4,(.bool x4))]) ⟨z,Aj⟩<|⟨x4,z,z,((((Ao hB3).then hB4).then hB6).then hB7).below,hC7⟩
  replace hr1:=A8 hr1 hc1
  refine sk 5 z z z z z<|sk 6 z z z z z<|sk 7 z z z z z<|sk 8 z z z z z<|sk 9 z z z z z<|sk 10 z z z z z<|sk 11 z z z z z<|tq 12 z z z z<|ta 13 z z z<|dn<|?_
  obtain rfl:=Aa hr1
  have hC8:=hC4.h0
  exact Am (l':=[(4,(.bool false))]) ⟨z,Aj⟩<|⟨false,z,z,((Ao hB3).then hB4).below,hC8⟩
 rintro _ w2 ⟨x1,rfl,rfl,hB2,hC2⟩
 try dsimp only at hF
 refine AL ?_
 obtain rfl:=Aa hF
 exact A2 z z<|⟨_,z,AN hC2 _⟩
theorem c_M_AreMethods_c1 {w0:World} (a1:(Int × (List Int) × Int × Int × Int)) (u1:Value) (g1:RO [] w0 u1 a1.2.1) (pb1:Nat) (ax1:(List Int)) (g2:ROAt [] w0 pb1 0 ax1) (rr:Bool) (hF:M.AreMethods_c1 a1 ax1=some rr) :
 Calls Tryz.prog 134 [(.agg #[(I a1.1),u1,(I a1.2.2.1),(I a1.2.2.2.1),(I a1.2.2.2.2)]),(ptr pb1 0)].toArray w0 fun e w'=>∃v,e=.returned v∧Res w0 rr v w':=by
 refine Ax Tryz.func134 z z ?_
 have hC0:=A5 w0
 unfold M.AreMethods_c1 at hF
 refine Ac<|Br (cs:=[(I a1.1),u1,(I a1.2.2.1),(I a1.2.2.2.1),(I a1.2.2.2.2)]) hC0 z z z fun b1 w1 hC1 hB1 hN1=>Ad z z<|Ab<|Ac<|AI ty24 g2 hC1.keep z z fun v1 h1=>Au [(I a1.1),u1,(I a1.2.2.1),(I a1.2.2.2.1),(I a1.2.2.2.2)] hC1 0 z z z BQ B6 z z<|be hF fun x1 hr1 hF=>cb Tryz.call135 z z (c_M_IsMethod ax1 v1 (h1.now hC1.keep) (a1.1,a1.2.1,a1.2.2.1,a1.2.2.2.1,a1.2.2.2.2) u1 (g1.now hC1.keep) x1 hr1) fun w2 hB2=>have hC2:=hC1.grow hB2;B3 z z<|Ad z z<|Ab<|AL<|?_
 obtain rfl:=Aa hF
 exact A2 z z<|⟨_,z,AN hC2 _⟩
theorem c_Slices_IndexFunc_Limpl_Method_impl_Method_M_AreMethods_c1 {w0:World} (a1:(List (Int × (List Int) × Int × Int × Int))) (u1:Value) (g1:RO [] w0 u1 a1) (pb1:Nat) (ax1:(List Int)) (g2:ROAt [] w0 pb1 0 ax1) (rr:Int) (hF:Slices.IndexFunc_Limpl_Method_impl_Method_M_AreMethods_c1 a1 ax1=some rr) :
 Calls Tryz.prog 184 [u1,(.func (.func 134) #[] #[(ptr pb1 0)])].toArray w0 fun e w'=>∃v,e=.returned v∧Res w0 rr v w':=by
 refine Ax Tryz.func184 z z ?_
 have hC0:=A5 w0
 unfold Slices.IndexFunc_Limpl_Method_impl_Method_M_AreMethods_c1 at hF
 refine Ac<|Ad z z<|Ab<|A6<|Ac<|Ae z z<|Bc Be g1 z z<|Ae z z<|Ab<|be hF fun r1 hr1 hF=>Bi (fun l w=>.inl ()=r1∧l=[]∧Below w0.heap.size w0 w∧Ctx [] w0 w []) ?_ ?_
 ·refine AJ<|wS (l':=[(0,u1),(1,(.func (.func 134) #[] #[(ptr pb1 0)])),(7,(I (List.length a1:Int))),(8,(I 0))]) ⟨z,z,z,z,Aj⟩<|B2 (fun k l w=>∃x1:Int,l=[(0,u1),(1,(.func (.func 134) #[] #[(ptr pb1 0)])),(7,(I (List.length a1:Int))),(8,(I x1))]∧Below w0.heap.size w0 w∧Ctx [] w0 w []∧Slices.IndexFunc_Limpl_Method_impl_Method_M_AreMethods_c1_l1 a1 ax1 k x1=some r1) FUEL ⟨0,z,(Al _ _),hC0,hr1⟩<|?_
  clear hr1
  rintro k1 _ w1 ⟨x1,rfl,hB1,hC1,hL1⟩
  cases k1 with
  | zero=>rw [Slices.IndexFunc_Limpl_Method_impl_Method_M_AreMethods_c1_l1] at hL1; cases hL1
  | succ k1 =>
   rw [Slices.IndexFunc_Limpl_Method_impl_Method_M_AreMethods_c1_l1] at hL1
   refine Ac<|Bv z z z<|Ab<|A6<|AE z (fun hc1=>?_) (fun hc1=>?_)
   ·replace hL1:=A7 hL1 hc1
    refine AF<|Ap<|A6<|AJ<|Ac<|Ae z z<|Ad z z<|Ab<|Ac<|Ae z z<|Ae z z<|Ae z z<|be hL1 fun x2 hx1 hL1=>AH Be ty93 g1 hx1 z z z fun b1 o1 h1=>AI ty93 h1 hC1.keep z z fun v1 h2=>?_
    obtain ⟨v2,rfl,h3⟩:=CE h2
    refine be hL1 fun x3 hr2 hL1=>BT (cap:=[(ptr pb1 0)]) Tryz.call134 z z z (c_M_AreMethods_c1 x2 v2 (h3.now hC1.keep) pb1 ax1 (g2.now hC1.keep) x3 hr2) fun _ w2 hv1=>?_
    obtain ⟨rfl,hB2⟩:=BU hv1
    have hC2:=hC1.grow hB2
    refine Ab<|AE z (fun hc2=>?_) (fun hc2=>?_)
    ·replace hL1:=A7 hL1 hc2
     refine Ac<|Ae z z<|Ad z z<|Ab<|AL<|Bd<|Av<|Av<|Bd<|Av<|Av<|?_
     obtain rfl:=Aa hL1
     dsimp only at hF
     obtain rfl:=Aa hF
     exact A2 z z<|⟨_,z,B4 hC2 _⟩
    replace hL1:=A8 hL1 hc2
    exact AF<|AU<|Ap<|Bg<|Bn z z z<|Ae z z<|Ab<|Am (l':=[(0,u1),(1,(.func (.func 134) #[] #[(ptr pb1 0)])),(7,(I (List.length a1:Int))),(8,(I (w64 (x1+1))))]) ⟨z,z,z,z,Aj⟩<|⟨k1,A3 _,w64 (x1+1),z,((Ao hB1).then hB2).below,hC2,hL1⟩
   replace hL1:=A8 hL1 hc1
   refine B1 (A9 (A9 (Bk ?_)))
   obtain rfl:=Aa hL1
   exact Am (l':=[]) Aj<|⟨z,z,(Ao hB1).below,hC1⟩
 rintro l2 _ w3 hs2 ⟨rfl,rfl,hB3,hC3⟩
 try dsimp only at hF
 refine AY hs2 ?_
 clear hs2
 refine Ac<|Ad z z<|Ab<|AL<|?_
 obtain rfl:=Aa hF
 exact A2 z z<|⟨_,z,B4 hC3 _⟩
theorem c_Slices_ContainsFunc_Limpl_Method_impl_Method_M_AreMethods_c1 {w0:World} (a1:(List (Int × (List Int) × Int × Int × Int))) (u1:Value) (g1:RO [] w0 u1 a1) (pb1:Nat) (ax1:(List Int)) (g2:ROAt [] w0 pb1 0 ax1) (rr:Bool) (hF:Slices.ContainsFunc_Limpl_Method_impl_Method_M_AreMethods_c1 a1 ax1=some rr) :
 Calls Tryz.prog 133 [u1,(.func (.func 134) #[] #[(ptr pb1 0)])].toArray w0 fun e w'=>∃v,e=.returned v∧Res w0 rr v w':=by
 refine Ax Tryz.func133 z z ?_
 have hC0:=A5 w0
 unfold Slices.ContainsFunc_Limpl_Method_impl_Method_M_AreMethods_c1 at hF
 refine Ac<|Ad z z<|Ab<|Ac<|Ae z z<|Ae z z<|be hF fun x1 hr1 hF=>ci Tryz.call184 z z (c_Slices_IndexFunc_Limpl_Method_impl_Method_M_AreMethods_c1 a1 u1 (g1.now hC0.keep) pb1 ax1 (g2.now hC0.keep) x1 hr1) fun w1 hB1=>have hC1:=hC0.grow hB1;Cf z z z<|Ad z z<|Ab<|AL<|?_
 obtain rfl:=Aa hF
 exact A2 z z<|⟨_,z,AN hC1 _⟩
theorem c_M_AreMethods {w0:World} (a1:(List Int)) (u1:Value) (g1:RO [] w0 u1 a1) (a2:(List (Int × (List Int) × Int × Int × Int))) (u2:Value) (g2:RO [] w0 u2 a2) (rr:Bool) (hF:M.AreMethods a1 a2=some rr) :
 Calls Tryz.prog 71 [u1,u2].toArray w0 fun e w'=>∃v,e=.returned v∧Res w0 rr v w':=by
 refine Ax Tryz.func71 z z ?_
 have hC0:=A5 w0
 unfold M.AreMethods at hF
 refine Ac<|Br (cs:=[u1]) hC0 (B7 g1) z z fun b1 w1 hC1 hB1 hN1=>Ad z z<|Ab<|be hF fun r1 hr1 hF=>BI (fun l w=>∃x1:Bool,x1=r1∧l=[(4,(.bool x1))]∧Below w1.heap.size w1 w∧Ctx [] w0 w []) ?_ ?_
 ·refine Bg<|Aq hC1 0 z z AM z z<|be hr1 fun x2 hr2 hr1=>cb CL z z (c_M_IsSchema a1 u1 (g1.now hC1.keep) x2 hr2) fun w3 hB3=>have hC3:=hC1.grow hB3;Ae z z<|Bz (fun hc1=>?_) (fun hc1=>?_)
  ·replace hr1:=A7 hr1 hc1
   refine Ah z z<|Ae z z<|Ah z z<|Bc Be g2 z z<|Ah z z<|Cp z z z<|AW z z z<|Ae z z<|Bz (fun hc2=>?_) (fun hc2=>?_)
   ·replace hr1:=A7 hr1 hc2
    refine Ah z z<|Ae z z<|Ah z z<|BP z z<|be hr1 fun x3 hr3 hr1=>Ah z z<|cb Tryz.call133 z z (c_Slices_ContainsFunc_Limpl_Method_impl_Method_M_AreMethods_c1 a2 u2 (g2.now hC3.keep) b1 a1 (hC3.boxAt 0 z (repw_slice (g1.now hC3.keep))) x3 hr3) fun w4 hB4=>have hC4:=hC3.grow hB4;Ah z z<|B3 z z<|AW z z z<|Ad z z<|Ab<|?_
    obtain rfl:=Aa hr1
    have hC5:=hC4.h0
    exact Am (l':=[(4,(.bool (!x3)))]) ⟨z,Aj⟩<|⟨(!x3),z,z,((Ao hB3).then hB4).below,hC5⟩
   replace hr1:=A8 hr1 hc2
   refine gs z z z z<|gs z z z z<|gs z z z z<|gs z z z z<|AZ z z z<|Ad z z<|Ab<|?_
   obtain rfl:=Aa hr1
   have hC6:=hC3.h0
   exact Am (l':=[(4,(.bool false))]) ⟨z,Aj⟩<|⟨false,z,z,(Ao hB3).below,hC6⟩
  replace hr1:=A8 hr1 hc1
  refine gs z z z z<|gs z z z z<|gs z z z z<|AZ z z z<|Ae z z<|gs z z z z<|gs z z z z<|gs z z z z<|gs z z z z<|AZ z z z<|Ad z z<|Ab<|?_
  obtain rfl:=Aa hr1
  have hC7:=hC3.h0
  exact Am (l':=[(4,(.bool false))]) ⟨z,Aj⟩<|⟨false,z,z,(Ao hB3).below,hC7⟩
 rintro _ w2 ⟨x1,rfl,rfl,hB2,hC2⟩
 try dsimp only at hF
 refine AL ?_
 obtain rfl:=Aa hF
 exact A2 z z<|⟨_,z,AN hC2 _⟩
theorem c_M_isValue {w0:World} (a1:Int) (rr:Bool) (hF:M.isValue a1=some rr) :
 Calls Tryz.prog 190 [(I a1)].toArray w0 fun e w'=>∃v,e=.returned v∧Res w0 rr v w':=by
 refine Ax Tryz.func190 z z ?_
 have hC0:=A5 w0
 unfold M.isValue at hF
 refine Ac<|Ad z z<|Ab<|Ac<|Ae z z<|be hF fun x1 hr1 hF=>cb BW z z (c_M_within a1 0 9 x1 hr1) fun w1 hB1=>have hC1:=hC0.grow hB1;Ad z z<|Ab<|AL<|?_
 obtain rfl:=Aa hF
 exact A2 z z<|⟨_,z,AN hC1 _⟩
theorem c_M_areValues_c1 {w0:World} (a1:Int) (rr:Bool) (hF:M.areValues_c1 a1=some rr) :
 Calls Tryz.prog 189 [(I a1)].toArray w0 fun e w'=>∃v,e=.returned v∧Res w0 rr v w':=by
 refine Ax Tryz.func189 z z ?_
 have hC0:=A5 w0
 unfold M.areValues_c1 at hF
 refine Ac<|Ad z z<|Ab<|Ac<|Ae z z<|be hF fun x1 hr1 hF=>cb Tryz.call190 z z (c_M_isValue a1 x1 hr1) fun w1 hB1=>have hC1:=hC0.grow hB1;B3 z z<|Ad z z<|Ab<|AL<|?_
 obtain rfl:=Aa hF
 exact A2 z z<|⟨_,z,AN hC1 _⟩
theorem c_Slices_IndexFunc_Lint_int_M_areValues_c1 {w0:World} (a1:(List Int)) (u1:Value) (g1:RO [] w0 u1 a1) (rr:Int) (hF:Slices.IndexFunc_Lint_int_M_areValues_c1 a1=some rr) :
 Calls Tryz.prog 205 [u1,(.func (.func 189) #[] #[])].toArray w0 fun e w'=>∃v,e=.returned v∧Res w0 rr v w':=by
 refine Ax CH z z ?_
 have hC0:=A5 w0
 unfold Slices.IndexFunc_Lint_int_M_areValues_c1 at hF
 refine Ac<|Ad z z<|Ab<|A6<|Ac<|Ae z z<|Bc Ak g1 z z<|Ae z z<|Ab<|be hF fun r1 hr1 hF=>Bi (fun l w=>.inl ()=r1∧l=[]∧Below w0.heap.size w0 w∧Ctx [] w0 w []) ?_ ?_
 ·refine AJ<|wS (l':=[(0,u1),(1,(.func (.func 189) #[] #[])),(7,(I (List.length a1:Int))),(8,(I 0))]) ⟨z,z,z,z,Aj⟩<|B2 (fun k l w=>∃x1:Int,l=[(0,u1),(1,(.func (.func 189) #[] #[])),(7,(I (List.length a1:Int))),(8,(I x1))]∧Below w0.heap.size w0 w∧Ctx [] w0 w []∧Slices.IndexFunc_Lint_int_M_areValues_c1_l1 a1 k x1=some r1) FUEL ⟨0,z,(Al _ _),hC0,hr1⟩<|?_
  clear hr1
  rintro k1 _ w1 ⟨x1,rfl,hB1,hC1,hL1⟩
  cases k1 with
  | zero=>rw [Slices.IndexFunc_Lint_int_M_areValues_c1_l1] at hL1; cases hL1
  | succ k1 =>
   rw [Slices.IndexFunc_Lint_int_M_areValues_c1_l1] at hL1
   refine Ac<|Bv z z z<|Ab<|A6<|AE z (fun hc1=>?_) (fun hc1=>?_)
   ·replace hL1:=A7 hL1 hc1
    refine AF<|Ap<|A6<|AJ<|Ac<|Ae z z<|Ad z z<|Ab<|Ac<|Ae z z<|Ae z z<|Ae z z<|be hL1 fun x2 hx1 hL1=>AH Ak ty3 g1 hx1 z z z fun b1 o1 h1=>AI ty3 h1 hC1.keep z z fun v1 h2=>?_
    obtain rfl:=B8 h2
    refine be hL1 fun x3 hr2 hL1=>BT (cap:=[]) Tryz.call189 z z z (c_M_areValues_c1 x2 x3 hr2) fun _ w2 hv1=>?_
    obtain ⟨rfl,hB2⟩:=BU hv1
    have hC2:=hC1.grow hB2
    refine Ab<|AE z (fun hc2=>?_) (fun hc2=>?_)
    ·replace hL1:=A7 hL1 hc2
     refine Ac<|Ae z z<|Ad z z<|Ab<|AL<|Bd<|Av<|Av<|Bd<|Av<|Av<|?_
     obtain rfl:=Aa hL1
     dsimp only at hF
     obtain rfl:=Aa hF
     exact A2 z z<|⟨_,z,B4 hC2 _⟩
    replace hL1:=A8 hL1 hc2
    exact AF<|AU<|Ap<|Bg<|Bn z z z<|Ae z z<|Ab<|Am (l':=[(0,u1),(1,(.func (.func 189) #[] #[])),(7,(I (List.length a1:Int))),(8,(I (w64 (x1+1))))]) ⟨z,z,z,z,Aj⟩<|⟨k1,A3 _,w64 (x1+1),z,((Ao hB1).then hB2).below,hC2,hL1⟩
   replace hL1:=A8 hL1 hc1
   refine B1 (A9 (A9 (Bk ?_)))
   obtain rfl:=Aa hL1
   exact Am (l':=[]) Aj<|⟨z,z,(Ao hB1).below,hC1⟩
 rintro l2 _ w3 hs2 ⟨rfl,rfl,hB3,hC3⟩
 try dsimp only at hF
 refine AY hs2 ?_
 clear hs2
 refine Ac<|Ad z z<|Ab<|AL<|?_
 obtain rfl:=Aa hF
 exact A2 z z<|⟨_,z,B4 hC3 _⟩
theorem c_Slices_ContainsFunc_Lint_int_M_areValues_c1 {w0:World} (a1:(List Int)) (u1:Value) (g1:RO [] w0 u1 a1) (rr:Bool) (hF:Slices.ContainsFunc_Lint_int_M_areValues_c1 a1=some rr) :
 Calls Tryz.prog 182 [u1,(.func (.func 189) #[] #[])].toArray w0 fun e w'=>∃v,e=.returned v∧Res w0 rr v w':=by
 refine Ax CI z z ?_
 have hC0:=A5 w0
 unfold Slices.ContainsFunc_Lint_int_M_areValues_c1 at hF
 refine Ac<|Ad z z<|Ab<|Ac<|Ae z z<|Ae z z<|be hF fun x1 hr1 hF=>ci CJ z z (c_Slices_IndexFunc_Lint_int_M_areValues_c1 a1 u1 (g1.now hC0.keep) x1 hr1) fun w1 hB1=>have hC1:=hC0.grow hB1;Cf z z z<|Ad z z<|Ab<|AL<|?_
 obtain rfl:=Aa hF
 exact A2 z z<|⟨_,z,AN hC1 _⟩
theorem c_M_areValues {w0:World} (a1:(List Int)) (u1:Value) (g1:RO [] w0 u1 a1) (rr:Bool) (hF:M.areValues a1=some rr) :
 Calls Tryz.prog 148 [u1].toArray w0 fun e w'=>∃v,e=.returned v∧Res w0 rr v w':=by
 refine Ax Tryz.func148 z z ?_
 have hC0:=A5 w0
 unfold M.areValues at hF
 refine Ac<|Ad z z<|Ab<|Ac<|Ae z z<|be hF fun x1 hr1 hF=>cb CK z z (c_Slices_ContainsFunc_Lint_int_M_areValues_c1 a1 u1 (g1.now hC0.keep) x1 hr1) fun w1 hB1=>have hC1:=hC0.grow hB1;B3 z z<|Ad z z<|Ab<|AL<|?_
 obtain rfl:=Aa hF
 exact A2 z z<|⟨_,z,AN hC1 _⟩
theorem c_M_IsAccess {w0:World} (a1:(List Int)) (u1:Value) (g1:RO [] w0 u1 a1) (a2:(List (Int × (List Int) × Int × Int × Int))) (u2:Value) (g2:RO [] w0 u2 a2) (a3:(Int × (List Int))) (u3:Value) (g3:RO [] w0 u3 a3.2) (rr:Bool) (hF:M.IsAccess a1 a2 a3=some rr) :
 Calls Tryz.prog 98 [u1,u2,(.agg #[(I a3.1),u3])].toArray w0 fun e w'=>∃v,e=.returned v∧Res w0 rr v w':=by
 refine Ax Tryz.func98 z z ?_
 have hC0:=A5 w0
 unfold M.IsAccess at hF
 refine Ac<|Br (cs:=[(I a3.1),u3]) hC0 z z z fun b1 w1 hC1 hB1 hN1=>Ad z z<|Ab<|be hF fun r1 hr1 hF=>BI (fun l w=>∃x1:Bool,x1=r1∧l=[(6,(.bool x1))]∧Below w1.heap.size w1 w∧Ctx [] w0 w []) ?_ ?_
 ·refine W_drawn 30 z hmix fun w3 hB3=>have hC3:=hC1.grow hB3;tm 0 z z z<|tm 1 z z z<|be hr1 fun x2 hr2 hr1=>oe 2 z<|cb Tryz.call71 z z (c_M_AreMethods a1 u1 (g1.now hC3.keep) a2 u2 (g2.now hC3.keep) x2 hr2) fun w4 hB4=>have hC4:=hC3.grow hB4;Ab<|tm 3 z z z<|BC (fun hc1=>?_) (fun hc1=>?_)
  ·replace hr1:=A7 hr1 hc1
   refine tg 4 z z z z (BB AQ z z (fun w=>⟨_,Ay w⟩) z)<|Ah z z<|fd AQ Ay z z z z<|Ab<|tn 6 z z z z z<|tg 7 z z z z (Df Be g2 z)<|Ah z z<|Bc Be g2 z z<|Ab<|tg 8 z z z z (Ct z z)<|Ah z z<|BR z z z<|Ab<|oe 5 z<|Ah z z<|Aq hC4 0 z z AR z z<|Ab<|be hr1 fun x3 hr3 hr1=>oe 9 z<|Ah z z<|cb BW z z (c_M_within a3.1 0 (w64 ((List.length a2:Int) - 1)) x3 hr3) fun w5 hB5=>have hC5:=hC4.grow hB5;Ab<|tp 10 z z z z<|tm 11 z z z<|BC (fun hc2=>?_) (fun hc2=>?_)
   ·replace hr1:=A7 hr1 hc2
    refine tg 12 z z z z (BB AQ z z (fun w=>⟨_,Az w⟩) z)<|Ah z z<|fd AQ Az z z z z<|Ab<|tn 15 z z z z z<|tg 16 z z z z (BB AQ z z (fun w=>⟨_,Ay w⟩) z)<|Ah z z<|fd AQ Ay z z z z<|Ab<|be hr1 fun x4 hx1 hr1=>wAS (l':=[(0,u1),(1,u2),(2,(.agg #[(I a3.1),u3])),(5,(ptr b1 0)),(6,(.bool false)),(7,u1),(8,u2),(9,(.bool x2)),(10,(.bool true)),(11,(ptr b1 0)),(12,(I a3.1)),(13,u2),(14,(I (List.length a2:Int))),(15,(I (w64 ((List.length a2:Int) - 1)))),(16,(.bool x3)),(17,(.bool x3)),(18,(.bool true)),(19,(ptr b1 1)),(22,u2),(23,(ptr b1 0))]) ⟨z,z,z,z,z,z,z,z,z,z,z,z,z,z,z,z,z,z,z,z,Aj⟩<|Bq [⟨13,[],fun vs=>Ba u3,[]⟩,⟨14,[],fun vs=>Ba (I (List.length a3.2:Int)),[]⟩,⟨17,[],fun vs=>Ba (I a3.1),[]⟩,⟨18,[],fun vs=>BZ [] w0 x4,[]⟩,⟨19,[],fun vs=>BZ [] w0 x4.2.1,[]⟩,⟨20,[],fun vs=>Ce [] w0 x4.2.1,[]⟩,⟨21,[],fun vs=>Ba (I (List.length x4.2.1:Int)),[]⟩] [[],[13],[],[17],[18],[19],[20]] 8 z (by kernel_rfl) (by kernel_rfl) z ?_ ?_
    ·refine An z ?_ ?_
     ·intro w6 hB6
      refine At<|⟨_,z,?_⟩
      exact Ah z z<|Aq (hC5.grow hB6) 0 z z AM z z<|Ab<|Aw (Al _ _) z z ⟨z,z⟩
     refine An z ?_ ?_
     ·intro w6 hB6
      refine AD z z z ?_
      rintro _ _ ⟨rfl,rfl⟩ _
      refine At<|⟨_,z,?_⟩
      exact Ah z z<|Bc Ak g3 z z<|Ab<|Aw (Al _ _) z z ⟨z,z⟩
     refine An z ?_ ?_
     ·intro w6 hB6
      refine At<|⟨_,z,?_⟩
      exact Ah z z<|Aq (hC5.grow hB6) 0 z z AR z z<|Ab<|Aw (Al _ _) z z ⟨z,z⟩
     refine An z ?_ ?_
     ·intro w6 hB6
      refine AD z z z ?_
      rintro _ _ ⟨rfl,rfl⟩ _
      refine At<|⟨_,z,?_⟩
      exact Ah z z<|AH Be ty93 g2 hx1 z z z fun b2 o1 h1=>Ab<|Aw (Al _ _) z z ⟨z,_,_,z,h1⟩
     refine An z ?_ ?_
     ·intro w6 hB6
      refine AD z z z ?_
      rintro _ _ ⟨rfl,b2,o1,rfl,h1⟩ _
      refine At<|⟨_,z,?_⟩
      exact Ah z z<|fd AB Az z z z z<|Ab<|Aw (Al _ _) z z ⟨z,_,_,z,h1.snd.fst⟩
     refine An z ?_ ?_
     ·intro w6 hB6
      refine AD z z z ?_
      rintro _ _ ⟨rfl,b3,o2,rfl,h2⟩ _
      refine At<|⟨_,z,?_⟩
      exact Ah z z<|AI ty24 h2 (hC5.keep.then hB6) z z fun v1 h3=>Ab<|Aw (Al _ _) z z ⟨z,h3⟩
     refine An z ?_ ?_
     ·intro w6 hB6
      refine AD z z z ?_
      rintro v1 _ ⟨rfl,h3⟩ _
      refine At<|⟨_,z,?_⟩
      exact Ah z z<|Bc Ak h3 z z<|Ab<|Aw (Al _ _) z z ⟨z,z⟩
     exact Bj
    intro w7 hB7
    refine Ar z z z ?_
    rintro _ _ ⟨rfl,rfl⟩
    refine Ar z z z ?_
    rintro _ _ ⟨rfl,rfl⟩
    refine Ar z z z ?_
    rintro _ _ ⟨rfl,rfl⟩
    refine Ar z z z ?_
    rintro _ _ ⟨rfl,b2,o1,rfl,h1⟩
    refine Ar z z z ?_
    rintro _ _ ⟨rfl,b3,o2,rfl,h2⟩
    refine Ar z z z ?_
    rintro v1 _ ⟨rfl,h3⟩
    refine Ar z z z ?_
    rintro _ _ ⟨rfl,rfl⟩
    refine Bt fun hn1 hb1=>have hC6:=hC5.grow hB7;tg 22 z z z z (CR z z)<|Ah z z<|BM z z z<|Ab<|tp 23 z z z z<|tm 24 z z z<|BC (fun hc3=>?_) (fun hc3=>?_)
    ·replace hr1:=A7 hr1 hc3
     refine tg 25 z z z z (BB AQ z z (fun w=>⟨_,Az w⟩) z)<|Ah z z<|fd AQ Az z z z z<|Ab<|oe 26 z<|Ah z z<|Aq hC6 0 z z AM z z<|Ab<|be hr1 fun x5 hr4 hr1=>oe 27 z<|Ah z z<|cb Tryz.call148 z z (c_M_areValues a3.2 u3 (g3.now hC6.keep) x5 hr4) fun w9 hB8=>have hC7:=hC6.grow hB8;Ab<|tp 28 z z z z<|ta 29 z z z<|dn<|?_
     obtain rfl:=Aa hr1
     have hC8:=hC7.h0
     exact Am (l':=[(6,(.bool x5))]) ⟨z,Aj⟩<|⟨x5,z,z,(((((Ao hB3).then hB4).then hB5).then hB7).then hB8).below,hC8⟩
    replace hr1:=A8 hr1 hc3
    refine sk 25 z z z z z<|sk 26 z z z z z<|sk 27 z z z z z<|tq 28 z z z z<|ta 29 z z z<|dn<|?_
    obtain rfl:=Aa hr1
    have hC9:=hC6.h0
    exact Am (l':=[(6,(.bool false))]) ⟨z,Aj⟩<|⟨false,z,z,((((Ao hB3).then hB4).then hB5).then hB7).below,hC9⟩
   replace hr1:=A8 hr1 hc2
   refine sk 12 z z z z z<|sk 13 z z z z z<|sk 14 z z z z z<|sk 15 z z z z z<|sk 16 z z z z z<|sk 17 z z z z z<|sk 18 z z z z z<|sk 19 z z z z z<|sk 20 z z z z z<|sk 21 z z z z z<|sk 22 z z z z z<|tq 23 z z z z<|tm 24 z z z<|sk 25 z z z z z<|sk 26 z z z z z<|sk 27 z z z z z<|tq 28 z z z z<|ta 29 z z z<|dn<|?_
   obtain rfl:=Aa hr1
   have hC10:=hC5.h0
   exact Am (l':=[(6,(.bool false))]) ⟨z,Aj⟩<|⟨false,z,z,(((Ao hB3).then hB4).then hB5).below,hC10⟩
  replace hr1:=A8 hr1 hc1
  refine sk 4 z z z z z<|sk 5 z z z z z<|sk 6 z z z z z<|sk 7 z z z z z<|sk 8 z z z z z<|sk 9 z z z z z<|tq 10 z z z z<|tm 11 z z z<|sk 12 z z z z z<|sk 13 z z z z z<|sk 14 z z z z z<|sk 15 z z z z z<|sk 16 z z z z z<|sk 17 z z z z z<|sk 18 z z z z z<|sk 19 z z z z z<|sk 20 z z z z z<|sk 21 z z z z z<|sk 22 z z z z z<|tq 23 z z z z<|tm 24 z z z<|sk 25 z z z z z<|sk 26 z z z z z<|sk 27 z z z z z<|tq 28 z z z z<|ta 29 z z z<|dn<|?_
  obtain rfl:=Aa hr1
  have hC11:=hC4.h0
  exact Am (l':=[(6,(.bool false))]) ⟨z,Aj⟩<|⟨false,z,z,((Ao hB3).then hB4).below,hC11⟩
 rintro _ w2 ⟨x1,rfl,rfl,hB2,hC2⟩
 try dsimp only at hF
 refine AL ?_
 obtain rfl:=Aa hF
 exact A2 z z<|⟨_,z,AN hC2 _⟩
theorem c_Cmp_Or_int {w0:World} (a1:(List Int)) (u1:Value) (g1:RO [] w0 u1 a1) (rr:Int) (hF:Cmp.Or_int a1=some rr) :
 Calls Tryz.prog 176 [u1].toArray w0 fun e w'=>∃v,e=.returned v∧Res w0 rr v w':=by
 refine Ax Tryz.func176 z z ?_
 have hC0:=A5 w0
 unfold Cmp.Or_int at hF
 refine Ac<|Ad z z<|Ab<|Ac<|Ad z z<|Ab<|A6<|Ac<|Ae z z<|Bc Ak g1 z z<|Ae z z<|Ab<|be hF fun r1 hr1 hF=>Bi (fun l w=>.inl ()=r1∧l=[(3,(I 0))]∧Below w0.heap.size w0 w∧Ctx [] w0 w []) ?_ ?_
 ·refine AJ<|wS (l':=[(3,(I 0)),(6,u1),(7,(I (List.length a1:Int))),(8,(I 0))]) ⟨z,z,z,z,Aj⟩<|B2 (fun k l w=>∃x1:Int,l=[(3,(I 0)),(6,u1),(7,(I (List.length a1:Int))),(8,(I x1))]∧Below w0.heap.size w0 w∧Ctx [] w0 w []∧Cmp.Or_int_l1 a1 k x1=some r1) FUEL ⟨0,z,(Al _ _),hC0,hr1⟩<|?_
  clear hr1
  rintro k1 _ w1 ⟨x1,rfl,hB1,hC1,hL1⟩
  cases k1 with
  | zero=>rw [Cmp.Or_int_l1] at hL1; cases hL1
  | succ k1 =>
   rw [Cmp.Or_int_l1] at hL1
   refine Ac<|Bv z z z<|Ab<|A6<|AE z (fun hc1=>?_) (fun hc1=>?_)
   ·replace hL1:=A7 hL1 hc1
    refine AF<|Ap<|A6<|AJ<|Ac<|be hL1 fun x2 hx1 hL1=>AH Ak ty3 g1 hx1 z z z fun b1 o1 h1=>AI ty3 h1 hC1.keep z z fun v1 h2=>?_
    obtain rfl:=B8 h2
    refine Ad z z<|Ab<|Ac<|Ae z z<|Ae z z<|Ch z z z<|Ab<|AE z (fun hc2=>?_) (fun hc2=>?_)
    ·replace hL1:=A7 hL1 hc2
     refine Ac<|Ae z z<|Ad z z<|Ab<|AL<|Bd<|Av<|Av<|Bd<|Av<|Av<|?_
     obtain rfl:=Aa hL1
     dsimp only at hF
     obtain rfl:=Aa hF
     exact A2 z z<|⟨_,z,B4 hC1 _⟩
    replace hL1:=A8 hL1 hc2
    exact AF<|AU<|Ap<|Bg<|Bn z z z<|Ae z z<|Ab<|Am (l':=[(3,(I 0)),(6,u1),(7,(I (List.length a1:Int))),(8,(I (w64 (x1+1))))]) ⟨z,z,z,z,Aj⟩<|⟨k1,A3 _,w64 (x1+1),z,(Ao hB1).below,hC1,hL1⟩
   replace hL1:=A8 hL1 hc1
   refine B1 (A9 (A9 (Bk ?_)))
   obtain rfl:=Aa hL1
   exact Am (l':=[(3,(I 0))]) ⟨z,Aj⟩<|⟨z,z,(Ao hB1).below,hC1⟩
 rintro l2 _ w2 hs2 ⟨rfl,rfl,hB2,hC2⟩
 try dsimp only at hF
 refine AY hs2 ?_
 clear hs2
 refine Ac<|Ae z z<|Ad z z<|Ab<|AL<|?_
 obtain rfl:=Aa hF
 exact A2 z z<|⟨_,z,B4 hC2 _⟩
theorem c_Cmp_isNaN_int {w0:World} (a1:Int) (rr:Bool) (hF:Cmp.isNaN_int a1=some rr) :
 Calls Tryz.prog 203 [(I a1)].toArray w0 fun e w'=>∃v,e=.returned v∧Res w0 rr v w':=by
 refine Ax Tryz.func203 z z ?_
 have hC0:=A5 w0
 unfold Cmp.isNaN_int at hF
 refine Ac<|Ad z z<|Ab<|Ac<|Ae z z<|Ae z z<|Ch z z z<|Ad z z<|Ab<|AL<|?_
 obtain rfl:=Aa hF
 exact A2 z z<|⟨_,z,AN hC0 _⟩
theorem c_Cmp_Compare_int {w0:World} (a1:Int) (a2:Int) (rr:Int) (hF:Cmp.Compare_int a1 a2=some rr) :
 Calls Tryz.prog 177 [(I a1),(I a2)].toArray w0 fun e w'=>∃v,e=.returned v∧Res w0 rr v w':=by
 refine Ax Tryz.func177 z z ?_
 have hC0:=A5 w0
 unfold Cmp.Compare_int at hF
 refine Ac<|Ad z z<|Ab<|Ac<|Ae z z<|be hF fun x1 hr1 hF=>cb Tryz.call203 z z (c_Cmp_isNaN_int a1 x1 hr1) fun w1 hB1=>have hC1:=hC0.grow hB1;Ad z z<|Ab<|Ac<|Ae z z<|be hF fun x2 hr2 hF=>cb Tryz.call203 z z (c_Cmp_isNaN_int a2 x2 hr2) fun w2 hB2=>have hC2:=hC1.grow hB2;Ad z z<|Ab<|A6<|Ac<|Ae z z<|Ab<|AE z (fun hc1=>?_) (fun hc1=>?_)
 ·replace hF:=A7 hF hc1
  refine A6<|Ac<|Ae z z<|Ab<|AE z (fun hc2=>?_) (fun hc2=>?_)
  ·replace hF:=A7 hF hc2
   refine Ac<|Ad z z<|Ab<|AL<|Av<|Av<|?_
   obtain rfl:=Aa hF
   exact A2 z z<|⟨_,z,B4 hC2 _⟩
  replace hF:=A8 hF hc2
  refine AF<|Ap<|Ac<|Ad z z<|Ab<|AL<|Av<|?_
  obtain rfl:=Aa hF
  exact A2 z z<|⟨_,z,B4 hC2 _⟩
 replace hF:=A8 hF hc1
 refine AF<|Ap<|A6<|Ac<|Ae z z<|Ab<|AE z (fun hc3=>?_) (fun hc3=>?_)
 ·replace hF:=A7 hF hc3
  refine Ac<|Ad z z<|Ab<|AL<|Av<|?_
  obtain rfl:=Aa hF
  exact A2 z z<|⟨_,z,B4 hC2 _⟩
 replace hF:=A8 hF hc3
 refine AF<|Ap<|A6<|Ac<|Ae z z<|Ae z z<|Bv z z z<|Ab<|AE z (fun hc4=>?_) (fun hc4=>?_)
 ·replace hF:=A7 hF hc4
  refine Ac<|Ad z z<|Ab<|AL<|Av<|?_
  obtain rfl:=Aa hF
  exact A2 z z<|⟨_,z,B4 hC2 _⟩
 replace hF:=A8 hF hc4
 refine AF<|Ap<|A6<|Ac<|Ae z z<|Ae z z<|Ca z z z<|Ab<|AE z (fun hc5=>?_) (fun hc5=>?_)
 ·replace hF:=A7 hF hc5
  refine Ac<|Ad z z<|Ab<|AL<|Av<|?_
  obtain rfl:=Aa hF
  exact A2 z z<|⟨_,z,B4 hC2 _⟩
 replace hF:=A8 hF hc5
 refine AF<|Ap<|Ac<|Ad z z<|Ab<|AL<|?_
 obtain rfl:=Aa hF
 exact A2 z z<|⟨_,z,B4 hC2 _⟩
theorem c_Slices_Compare_Lint_int {w0:World} (a1:(List Int)) (u1:Value) (g1:RO [] w0 u1 a1) (a2:(List Int)) (u2:Value) (g2:RO [] w0 u2 a2) (rr:Int) (hF:Slices.Compare_Lint_int a1 a2=some rr) :
 Calls Tryz.prog 178 [u1,u2].toArray w0 fun e w'=>∃v,e=.returned v∧Res w0 rr v w':=by
 refine Ax Tryz.func178 z z ?_
 have hC0:=A5 w0
 unfold Slices.Compare_Lint_int at hF
 refine Ac<|Ad z z<|Ab<|A6<|Ac<|Ae z z<|Bc Ak g1 z z<|Ae z z<|Ab<|be hF fun r1 hr1 hF=>Bi (fun l w=>.inl ()=r1∧l=[(0,u1),(1,u2)]∧Below w0.heap.size w0 w∧Ctx [] w0 w []) ?_ ?_
 ·refine AJ<|wS (l':=[(0,u1),(1,u2),(9,u1),(10,(I (List.length a1:Int))),(11,(I 0))]) ⟨z,z,z,z,z,Aj⟩<|B2 (fun k l w=>∃x1:Int,l=[(0,u1),(1,u2),(9,u1),(10,(I (List.length a1:Int))),(11,(I x1))]∧Below w0.heap.size w0 w∧Ctx [] w0 w []∧Slices.Compare_Lint_int_l1 a1 a2 k x1=some r1) FUEL ⟨0,z,(Al _ _),hC0,hr1⟩<|?_
  clear hr1
  rintro k1 _ w1 ⟨x1,rfl,hB1,hC1,hL1⟩
  cases k1 with
  | zero=>rw [Slices.Compare_Lint_int_l1] at hL1; cases hL1
  | succ k1 =>
   rw [Slices.Compare_Lint_int_l1] at hL1
   refine Ac<|Bv z z z<|Ab<|A6<|AE z (fun hc1=>?_) (fun hc1=>?_)
   ·replace hL1:=A7 hL1 hc1
    refine AF<|Ap<|A6<|AJ<|Ac<|Ae z z<|be hL1 fun x2 hx1 hL1=>AH Ak ty3 g1 hx1 z z z fun b1 o1 h1=>AI ty3 h1 hC1.keep z z fun v1 h2=>?_
    obtain rfl:=B8 h2
    refine Ad z z<|Ad z z<|Ab<|A6<|Ac<|Ae z z<|Ae z z<|Bc Ak g2 z z<|Cf z z z<|Ab<|AE z (fun hc2=>?_) (fun hc2=>?_)
    ·replace hL1:=A7 hL1 hc2
     refine Ac<|Ad z z<|Ab<|AL<|Av<|Bd<|Av<|Av<|Bd<|Av<|Av<|?_
     obtain rfl:=Aa hL1
     dsimp only at hF
     obtain rfl:=Aa hF
     exact A2 z z<|⟨_,z,B4 hC1 _⟩
    replace hL1:=A8 hL1 hc2
    refine AF<|Ap<|Ac<|Ae z z<|Ae z z<|be hL1 fun x3 hx2 hL1=>AH Ak ty3 g2 hx2 z z z fun b2 o2 h3=>AI ty3 h3 hC1.keep z z fun v2 h4=>?_
    obtain rfl:=B8 h4
    refine Ad z z<|Ab<|Ac<|Ae z z<|Ae z z<|be hL1 fun x4 hr2 hL1=>ci Tryz.call177 z z (c_Cmp_Compare_int x2 x3 x4 hr2) fun w2 hB2=>have hC2:=hC1.grow hB2;Ad z z<|Ab<|Ac<|Ae z z<|Ch z z z<|Ab<|AE z (fun hc3=>?_) (fun hc3=>?_)
    ·replace hL1:=A7 hL1 hc3
     refine Ac<|Ae z z<|Ad z z<|Ab<|AL<|Bd<|Av<|Av<|Bd<|Av<|Av<|?_
     obtain rfl:=Aa hL1
     dsimp only at hF
     obtain rfl:=Aa hF
     exact A2 z z<|⟨_,z,B4 hC2 _⟩
    replace hL1:=A8 hL1 hc3
    exact AF<|AU<|Ap<|Bg<|Bn z z z<|Ae z z<|Ab<|Am (l':=[(0,u1),(1,u2),(9,u1),(10,(I (List.length a1:Int))),(11,(I (w64 (x1+1))))]) ⟨z,z,z,z,z,Aj⟩<|⟨k1,A3 _,w64 (x1+1),z,((Ao hB1).then hB2).below,hC2,hL1⟩
   replace hL1:=A8 hL1 hc1
   refine B1 (A9 (A9 (Bk ?_)))
   obtain rfl:=Aa hL1
   exact Am (l':=[(0,u1),(1,u2)]) ⟨z,z,Aj⟩<|⟨z,z,(Ao hB1).below,hC1⟩
 rintro l2 _ w3 hs2 ⟨rfl,rfl,hB3,hC3⟩
 try dsimp only at hF
 refine AY hs2 ?_
 clear hs2
 refine A6<|Ac<|Ae z z<|Bc Ak g1 z z<|Ae z z<|Bc Ak g2 z z<|Bv z z z<|Ab<|AE z (fun hc4=>?_) (fun hc4=>?_)
 ·replace hF:=A7 hF hc4
  refine Ac<|Ad z z<|Ab<|AL<|Av<|?_
  obtain rfl:=Aa hF
  exact A2 z z<|⟨_,z,B4 hC3 _⟩
 replace hF:=A8 hF hc4
 refine AF<|Ap<|Ac<|Ad z z<|Ab<|AL<|?_
 obtain rfl:=Aa hF
 exact A2 z z<|⟨_,z,B4 hC3 _⟩
theorem c_M_CompareFacts {w0:World} (a1:(Int × (List Int))) (u1:Value) (g1:RO [] w0 u1 a1.2) (a2:(Int × (List Int))) (u2:Value) (g2:RO [] w0 u2 a2.2) (rr:Int) (hF:M.CompareFacts a1 a2=some rr) :
 Calls Tryz.prog 128 [(.agg #[(I a1.1),u1]),(.agg #[(I a2.1),u2])].toArray w0 fun e w'=>∃v,e=.returned v∧Res w0 rr v w':=by
 refine Ax Tryz.func128 z z ?_
 have hC0:=A5 w0
 unfold M.CompareFacts at hF
 refine Ac<|Br (cs:=[(I a1.1),u1]) hC0 z z z fun b1 w1 hC1 hB1 hN1=>Br (cs:=[(I a2.1),u2]) hC1 z z z fun b2 w2 hC2 hB2 hN2=>Ad z z<|Ab<|A6<|W_drawn 13 z hmix fun w3 hB3=>have hC3:=hC2.grow hB3;tf 0 A4 Ay z z z z z<|tf 2 A4 Ay z z z z z<|tf 5 A4 Az z z z z z<|tf 7 A4 Az z z z z z<|be hF fun x1 hr1 hF=>wAS (l':=[(0,(.agg #[(I a1.1),u1])),(1,(.agg #[(I a2.1),u2])),(2,(ptr b1 0)),(3,(ptr b2 0)),(4,(I 0)),(5,(ptr b1 0)),(7,(ptr b2 0)),(10,(ptr b1 1)),(12,(ptr b2 1))]) ⟨z,z,z,z,z,z,z,z,z,Aj⟩<|Bq [⟨1,[],fun vs=>Ba (I a1.1),[]⟩,⟨3,[],fun vs=>Ba (I a2.1),[]⟩,⟨4,[],fun vs=>Ba (I x1),[]⟩,⟨6,[],fun vs=>Ba u1,[]⟩,⟨8,[],fun vs=>Ba u2,[]⟩] [[],[],[1,3],[],[]] 4 z (by kernel_rfl) (by kernel_rfl) z ?_ ?_
 ·refine An z ?_ ?_
  ·intro w5 hB5
   refine At<|⟨_,z,?_⟩
   exact Aq (hC3.grow hB5) 1 z z AR z z<|Ab<|Aw (Al _ _) z z ⟨z,z⟩
  refine An z ?_ ?_
  ·intro w5 hB5
   refine At<|⟨_,z,?_⟩
   exact Aq (hC3.grow hB5) 0 z z AR z z<|Ab<|Aw (Al _ _) z z ⟨z,z⟩
  refine An z ?_ ?_
  ·intro w5 hB5
   refine AD z z z ?_
   rintro _ _ ⟨rfl,rfl⟩ _
   refine AD z z z ?_
   rintro _ _ ⟨rfl,rfl⟩ _
   refine At<|⟨_,z,?_⟩
   exact ci Tryz.call177 z z (c_Cmp_Compare_int a1.1 a2.1 x1 hr1) fun w4 hB4=>Ab<|Aw hB4 z z ⟨z,z⟩
  refine An z ?_ ?_
  ·intro w5 hB5
   refine At<|⟨_,z,?_⟩
   exact Aq (hC3.grow hB5) 1 z z AM z z<|Ab<|Aw (Al _ _) z z ⟨z,z⟩
  refine An z ?_ ?_
  ·intro w5 hB5
   refine At<|⟨_,z,?_⟩
   exact Aq (hC3.grow hB5) 0 z z AM z z<|Ab<|Aw (Al _ _) z z ⟨z,z⟩
  exact Bj
 intro w6 hB6
 refine Ar z z z ?_
 rintro _ _ ⟨rfl,rfl⟩
 refine Ar z z z ?_
 rintro _ _ ⟨rfl,rfl⟩
 refine Ar z z z ?_
 rintro _ _ ⟨rfl,rfl⟩
 refine Ar z z z ?_
 rintro _ _ ⟨rfl,rfl⟩
 refine Ar z z z ?_
 rintro _ _ ⟨rfl,rfl⟩
 refine Bt fun hn1 hb1=>have hC4:=hC3.grow hB6;be hF fun x2 hr2 hF=>oe 9 z<|ci Tryz.call178 z z (c_Slices_Compare_Lint_int a1.2 u1 (g1.now hC4.keep) a2.2 u2 (g2.now hC4.keep) x2 hr2) fun w7 hB7=>have hC5:=hC4.grow hB7;Ab<|oe 10 z<|AC (vs:=[(I x1),(I x2)]) hC5 Ak ty3 z z z z (fac z<|fac z<|fa0) z z fun b3 w9 hC6 hB8=>?_
 have hC7:=hC6.row0 (α:=Int)
 have hC8:=hC7.triv (Bx (x2))
 have hC9:=hC8.row1
 have hC10:=hC9.triv (Bx (x1))
 have hC11:=hC10.row1
 have hC12:=hC11.front 1 z
 dsimp only [List.eraseIdx,List.cons_append,List.nil_append,List.append_nil] at hC12
 have hC13:Ctx [] w0 w9 (Af (.slice (some ⟨b3,0,none⟩) 2 2) ([x1,x2]:List Int)::[Ag b2 [(I a2.1),u2],Ag b1 [(I a1.1),u1]]):=hC12.rowOwn (by simp [maxLen])
 refine Ab<|be hF fun x3 hr3 hF=>oe 11 z<|ci Tryz.call176 z z (c_Cmp_Or_int ([x1,x2]) (.slice (some ⟨b3,0,none⟩) 2 2) ((hC13.ro 0 z).now (A1 _ _)) x3 hr3) fun w10 hB9=>have hC14:=hC13.grow hB9;Ab<|ta 12 z z z<|dn<|Ap<|AL<|?_
 obtain rfl:=Aa hF
 exact A2 z z<|⟨_,z,B4 hC14 _⟩
theorem c_M_IsFact {w0:World} (a1:(List Int)) (u1:Value) (g1:RO [] w0 u1 a1) (a2:(Int × (List Int))) (u2:Value) (g2:RO [] w0 u2 a2.2) (rr:Bool) (hF:M.IsFact a1 a2=some rr) :
 Calls Tryz.prog 137 [u1,(.agg #[(I a2.1),u2])].toArray w0 fun e w'=>∃v,e=.returned v∧Res w0 rr v w':=by
 refine Ax Tryz.func137 z z ?_
 have hC0:=A5 w0
 unfold M.IsFact at hF
 refine Ac<|Br (cs:=[(I a2.1),u2]) hC0 z z z fun b1 w1 hC1 hB1 hN1=>Ad z z<|Ab<|be hF fun r1 hr1 hF=>BI (fun l w=>∃x1:Bool,x1=r1∧l=[(4,(.bool x1))]∧Below w1.heap.size w1 w∧Ctx [] w0 w []) ?_ ?_
 ·refine W_drawn 21 z hmix fun w3 hB3=>have hC3:=hC1.grow hB3;tm 0 z z z<|tf 1 A4 Ay z z z z z<|oe 2 z<|Aq hC3 0 z z AR z z<|Ab<|be hr1 fun x2 hr2 hr1=>oe 3 z<|cb CM z z (c_M_hasRel a1 u1 (g1.now hC3.keep) a2.1 x2 hr2) fun w4 hB4=>have hC4:=hC3.grow hB4;Ab<|tm 4 z z z<|BC (fun hc1=>?_) (fun hc1=>?_)
  ·replace hr1:=A7 hr1 hc1
   refine tg 5 z z z z (BB A4 z z (fun w=>⟨_,Az w⟩) z)<|Ah z z<|fd A4 Az z z z z<|Ab<|tn 8 z z z z z<|tg 9 z z z z (BB A4 z z (fun w=>⟨_,Ay w⟩) z)<|Ah z z<|fd A4 Ay z z z z<|Ab<|be hr1 fun x3 hx1 hr1=>wAS (l':=[(0,u1),(1,(.agg #[(I a2.1),u2])),(3,(ptr b1 0)),(4,(.bool false)),(5,u1),(6,(ptr b1 0)),(7,(I a2.1)),(8,(.bool x2)),(9,(.bool true)),(10,(ptr b1 1)),(13,u1),(14,(ptr b1 0))]) ⟨z,z,z,z,z,z,z,z,z,z,z,z,Aj⟩<|Bq [⟨6,[],fun vs=>Ba u2,[]⟩,⟨7,[],fun vs=>Ba (I (List.length a2.2:Int)),[]⟩,⟨10,[],fun vs=>Ba (I a2.1),[]⟩,⟨11,[],fun vs=>BZ [] w0 x3,[]⟩,⟨12,[],fun vs=>Ba (I x3),[]⟩] [[],[6],[],[10],[11]] 8 z (by kernel_rfl) (by kernel_rfl) z ?_ ?_
   ·refine An z ?_ ?_
    ·intro w5 hB5
     refine At<|⟨_,z,?_⟩
     exact Ah z z<|Aq (hC4.grow hB5) 0 z z AM z z<|Ab<|Aw (Al _ _) z z ⟨z,z⟩
    refine An z ?_ ?_
    ·intro w5 hB5
     refine AD z z z ?_
     rintro _ _ ⟨rfl,rfl⟩ _
     refine At<|⟨_,z,?_⟩
     exact Ah z z<|Bc Ak g2 z z<|Ab<|Aw (Al _ _) z z ⟨z,z⟩
    refine An z ?_ ?_
    ·intro w5 hB5
     refine At<|⟨_,z,?_⟩
     exact Ah z z<|Aq (hC4.grow hB5) 0 z z AR z z<|Ab<|Aw (Al _ _) z z ⟨z,z⟩
    refine An z ?_ ?_
    ·intro w5 hB5
     refine AD z z z ?_
     rintro _ _ ⟨rfl,rfl⟩ _
     refine At<|⟨_,z,?_⟩
     exact Ah z z<|AH Ak ty3 g1 hx1 z z z fun b2 o1 h1=>Ab<|Aw (Al _ _) z z ⟨z,_,_,z,h1⟩
    refine An z ?_ ?_
    ·intro w5 hB5
     refine AD z z z ?_
     rintro _ _ ⟨rfl,b2,o1,rfl,h1⟩ _
     refine At<|⟨_,z,?_⟩
     refine Ah z z<|AI ty3 h1 (hC4.keep.then hB5) z z fun v1 h2=>?_
     obtain rfl:=B8 h2
     exact Ab<|Aw (Al _ _) z z ⟨z,z⟩
    exact Bj
   intro w6 hB6
   refine Ar z z z ?_
   rintro _ _ ⟨rfl,rfl⟩
   refine Ar z z z ?_
   rintro _ _ ⟨rfl,rfl⟩
   refine Ar z z z ?_
   rintro _ _ ⟨rfl,rfl⟩
   refine Ar z z z ?_
   rintro _ _ ⟨rfl,b2,o1,rfl,h1⟩
   refine Ar z z z ?_
   rintro _ _ ⟨rfl,rfl⟩
   refine Bt fun hn1 hb1=>have hC5:=hC4.grow hB6;tg 13 z z z z (CR z z)<|Ah z z<|BM z z z<|Ab<|tp 14 z z z z<|tm 15 z z z<|BC (fun hc2=>?_) (fun hc2=>?_)
   ·replace hr1:=A7 hr1 hc2
    refine tg 16 z z z z (BB A4 z z (fun w=>⟨_,Az w⟩) z)<|Ah z z<|fd A4 Az z z z z<|Ab<|oe 17 z<|Ah z z<|Aq hC5 0 z z AM z z<|Ab<|be hr1 fun x4 hr3 hr1=>oe 18 z<|Ah z z<|cb Tryz.call148 z z (c_M_areValues a2.2 u2 (g2.now hC5.keep) x4 hr3) fun w7 hB7=>have hC6:=hC5.grow hB7;Ab<|tp 19 z z z z<|ta 20 z z z<|dn<|?_
    obtain rfl:=Aa hr1
    have hC7:=hC6.h0
    exact Am (l':=[(4,(.bool x4))]) ⟨z,Aj⟩<|⟨x4,z,z,((((Ao hB3).then hB4).then hB6).then hB7).below,hC7⟩
   replace hr1:=A8 hr1 hc2
   refine sk 16 z z z z z<|sk 17 z z z z z<|sk 18 z z z z z<|tq 19 z z z z<|ta 20 z z z<|dn<|?_
   obtain rfl:=Aa hr1
   have hC8:=hC5.h0
   exact Am (l':=[(4,(.bool false))]) ⟨z,Aj⟩<|⟨false,z,z,(((Ao hB3).then hB4).then hB6).below,hC8⟩
  replace hr1:=A8 hr1 hc1
  refine sk 5 z z z z z<|sk 6 z z z z z<|sk 7 z z z z z<|sk 8 z z z z z<|sk 9 z z z z z<|sk 10 z z z z z<|sk 11 z z z z z<|sk 12 z z z z z<|sk 13 z z z z z<|tq 14 z z z z<|tm 15 z z z<|sk 16 z z z z z<|sk 17 z z z z z<|sk 18 z z z z z<|tq 19 z z z z<|ta 20 z z z<|dn<|?_
  obtain rfl:=Aa hr1
  have hC9:=hC4.h0
  exact Am (l':=[(4,(.bool false))]) ⟨z,Aj⟩<|⟨false,z,z,((Ao hB3).then hB4).below,hC9⟩
 rintro _ w2 ⟨x1,rfl,rfl,hB2,hC2⟩
 try dsimp only at hF
 refine AL ?_
 obtain rfl:=Aa hF
 exact A2 z z<|⟨_,z,AN hC2 _⟩
end Go.Gx.Px
