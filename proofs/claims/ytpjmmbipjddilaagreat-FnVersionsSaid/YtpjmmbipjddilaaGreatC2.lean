/- The contracts of the Go functions against the pure functions, printed by program. Conditions: each says them. -/
import Derived.Test.YtpjmmbipjddilaaGreatC1
set_option linter.unusedVariables false
set_option linter.unusedSimpArgs false
set_option maxRecDepth 100000
set_option maxHeartbeats 4000000
namespace Go.Gx.Px
open Go.Proofs Go.RowKit
open K9
theorem c_S_l25Draw {w0:World} {Fs:List (List Nat)} (pb1:Nat) (a1:((List UInt8) × Int × Int)) (u1:Value) (g1:RO Fs.flatten w0 u1 a1.1) (hH:Hold [Ac pb1 [u1,(I a1.2.1),(I a1.2.2)]] w0 Fs) (hn:Fs.flatten.Nodup) (rr:((List Int) × (List (Int × (List Int) × Int × Int × Int)) × ((List (Int × (List Int))) × Int) × ((List UInt8) × Int × Int))) (hF:S.l25Draw a1=some rr) :
 Calls Tryz.prog 28 [(ptr pb1 0)].toArray w0 fun e w'=>∃v,e=.returned v∧∃q0:Value,∃q1:Value,∃q2:Value,v=(.tuple #[q0,q1,q2])∧Ctx Fs.flatten w0 w' [Ae q0 (rr.1:(List Int)),Ae q1 (rr.2.1:(List (Int × (List Int) × Int × Int × Int))),Ae q2 (rr.2.2.1:((List (Int × (List Int))) × Int)),Ac pb1 [u1,(I rr.2.2.2.2.1),(I rr.2.2.2.2.2)]]:=by
 refine A4 Tryz.func28 z z ?_
 have hC0:=B4 hH hn
 unfold S.l25Draw at hF
 refine Ad<|Ag z z<|Ag z z<|AW hC0 zero27 z z fun b1 w1 hC1 hB1 hN1=>Ab<|Ad<|Af z z<|be hF fun x1 hr1 hF=>have hC2:=hC1.f1;?_
 obtain ⟨Fs1,hH1,hn1,hF1,hO1,hb1⟩:=AB (As:=[Ac b1 [(.slice none 0 0),(I 0)]]) [Ac pb1 [u1,(I a1.2.1),(I a1.2.2)]] hC2
 refine A8 Tryz.call64 z z (c_S_l5Draw pb1 (a1.1,a1.2.1,a1.2.2) u1 (AJ g1 hC2.keep hF1) hH1 hn1 x1 hr1) ?_
 rintro _ w2 ⟨v1,v2,v3,rfl,hq1⟩
 have hC3:Ctx Fs.flatten w0 w2 [Ae v1 (x1.1:(List Int)),Ae v2 (x1.2.1:(List (Int × (List Int) × Int × Int × Int))),Ae v3 (x1.2.2.1:(List (Int × (List Int)))),Ac pb1 [u1,(I x1.2.2.2.2.1),(I x1.2.2.2.2.2)],Ac b1 [(.slice none 0 0),(I 0)]]:=hb1 _ _ hq1
 refine Af z z<|AM z z z<|AM z z z<|AM z z z<|Ag z z<|Ag z z<|Ag z z<|Ab<|Ad<|Af z z<|Af z z<|be hF fun x2 hr2 hF=>have hC4:=hC3.f3;?_
 obtain ⟨Fs2,hH2,hn2,hF2,hO2,hb2⟩:=AB (As:=[Ae v1 (x1.1:(List Int)),Ae v2 (x1.2.1:(List (Int × (List Int) × Int × Int × Int))),Ae v3 (x1.2.2.1:(List (Int × (List Int)))),Ac b1 [(.slice none 0 0),(I 0)]]) [Ac pb1 [u1,(I x1.2.2.2.2.1),(I x1.2.2.2.2.2)]] hC4
 refine A8 Bw z z (c_S_l1Below pb1 (a1.1,x1.2.2.2.2.1,x1.2.2.2.2.2) u1 (AJ g1 hC4.keep hF2) 4 hH2 hn2 x2 hr2) ?_
 rintro _ w3 ⟨rfl,hq2⟩
 have hC5:Ctx Fs.flatten w0 w3 [Ac pb1 [u1,(I x2.2.2.1),(I x2.2.2.2)],Ae v1 (x1.1:(List Int)),Ae v2 (x1.2.1:(List (Int × (List Int) × Int × Int × Int))),Ae v3 (x1.2.2.1:(List (Int × (List Int)))),Ac b1 [(.slice none 0 0),(I 0)]]:=hb2 _ _ hq2
 refine BB (vs:=[(0,v3),(1,(I x2.1))]) z z z (built27_0_1 (Ca (hC5.ro 3 z)) z)<|AW hC5 zero27 z z fun b2 w4 hC6 hB2 hN2=>Al (cs':=[v3,(I x2.1)]) (new:=[v3,(I x2.1)]) hC6 0 z z (fac (AP (hC6.ro 4 z))<|fac z<|fa0) z Aw z z fun w5 hC7 hKp1=>?_
 try dsimp only [List.set] at hC7
 have hk1:=Ak (Ao hB2) hN2 hKp1
 refine Ab<|AC<|Ad<|Af z z<|be hF fun x3 hr3 hF=>have hC8:=hC7.f1;?_
 obtain ⟨Fs3,hH3,hn3,hF3,hO3,hb3⟩:=AB (As:=[Ac b2 [v3,(I x2.1)],Ae v1 (x1.1:(List Int)),Ae v2 (x1.2.1:(List (Int × (List Int) × Int × Int × Int))),Ae v3 (x1.2.2.1:(List (Int × (List Int)))),Ac b1 [(.slice none 0 0),(I 0)]]) [Ac pb1 [u1,(I x2.2.2.1),(I x2.2.2.2)]] hC8
 refine A8 Cj z z (c_S_l1Once pb1 (a1.1,x2.2.2.1,x2.2.2.2) u1 (AJ g1 hC8.keep hF3) 12 hH3 hn3 x3 hr3) ?_
 rintro _ w6 ⟨rfl,hq3⟩
 have hC9:Ctx Fs.flatten w0 w6 [Ac pb1 [u1,(I x3.2.2.1),(I x3.2.2.2)],Ac b2 [v3,(I x2.1)],Ae v1 (x1.1:(List Int)),Ae v2 (x1.2.1:(List (Int × (List Int) × Int × Int × Int))),Ae v3 (x1.2.2.1:(List (Int × (List Int)))),Ac b1 [(.slice none 0 0),(I 0)]]:=hb3 _ _ hq3
 refine Ab<|be hF fun r1 hr4 hF=>Bv (fun l w=>∃x4:Int,∃x5:Int,∃v4:Value,∃x6:(List (Int × (List Int))),∃x7:Int,(x4,x5,x6,x7)=r1∧l=[(4,(ptr b1 0)),(5,v1),(6,v2),(8,(ptr b2 0))]∧Ctx Fs.flatten w0 w [Ac pb1 [u1,(I x4),(I x5)],Ac b2 [v4,(I x7)],Ae v1 (x1.1:(List Int)),Ae v2 (x1.2.1:(List (Int × (List Int) × Int × Int × Int))),Ae v4 (x6:(List (Int × (List Int)))),Ac b1 [(.slice none 0 0),(I 0)]]) ?_ ?_
 ·refine AN z (fun hc1=>?_) (fun hc1=>?_)
  ·replace hr4:=AF hr4 hc1
   refine Bt<|Af z z<|AK (vs:=[(I (-1)),(I 999),(I 1000),(I 1001)]) hC9 Ap ty3 z z z z (fac z<|fac z<|fac z<|fac z<|fa0) z z fun b3 w9 hC11 hB4=>?_
   have hC12:=hC11.row0 (α:=Int)
   have hC13:=hC12.triv (Bp (1001))
   have hC14:=hC13.row1
   have hC15:=hC14.triv (Bp (1000))
   have hC16:=hC15.row1
   have hC17:=hC16.triv (Bp (999))
   have hC18:=hC17.row1
   have hC19:=hC18.triv (Bp ((-1)))
   have hC20:=hC19.row1
   have hC21:=hC20.front 1 z
   dsimp only [List.eraseIdx,List.cons_append,List.nil_append,List.append_nil] at hC21
   have hC22:Ctx Fs.flatten w0 w9 (Ae (.slice (some ⟨b3,0,none⟩) 4 4) ([(-1),999,1000,1001]:List Int)::[Ac pb1 [u1,(I x3.2.2.1),(I x3.2.2.2)],Ac b2 [v3,(I x2.1)],Ae v1 (x1.1:(List Int)),Ae v2 (x1.2.1:(List (Int × (List Int) × Int × Int × Int))),Ae v3 (x1.2.2.1:(List (Int × (List Int)))),Ac b1 [(.slice none 0 0),(I 0)]]):=hC21.rowOwn (by simp [maxLen])
   refine be hr4 fun x8 hr5 hr4=>have hC23:=hC22.f1;?_
   obtain ⟨Fs4,hH4,hn4,hF4,hO4,hb4⟩:=AB (As:=[Ae (.slice (some ⟨b3,0,none⟩) 4 4) ([(-1),999,1000,1001]:(List Int)),Ac b2 [v3,(I x2.1)],Ae v1 (x1.1:(List Int)),Ae v2 (x1.2.1:(List (Int × (List Int) × Int × Int × Int))),Ae v3 (x1.2.2.1:(List (Int × (List Int)))),Ac b1 [(.slice none 0 0),(I 0)]]) [Ac pb1 [u1,(I x3.2.2.1),(I x3.2.2.2)]] hC23
   refine A8 BU z z (c_S_l1PickInt pb1 (a1.1,x3.2.2.1,x3.2.2.2) u1 (AJ g1 hC23.keep hF4) ([(-1),999,1000,1001]) (.slice (some ⟨b3,0,none⟩) 4 4) (hO4 0 _ _ _ z) hH4 hn4 x8 hr5) ?_
   rintro _ w10 ⟨rfl,hq4⟩
   have hC24:Ctx Fs.flatten w0 w10 [Ac pb1 [u1,(I x8.2.2.1),(I x8.2.2.2)],Ae (.slice (some ⟨b3,0,none⟩) 4 4) ([(-1),999,1000,1001]:(List Int)),Ac b2 [v3,(I x2.1)],Ae v1 (x1.1:(List Int)),Ae v2 (x1.2.1:(List (Int × (List Int) × Int × Int × Int))),Ae v3 (x1.2.2.1:(List (Int × (List Int)))),Ac b1 [(.slice none 0 0),(I 0)]]:=hb4 _ _ hq4
   refine fd A1 Az z z z z<|Br (cs':=[v3,(I x8.1)]) hC24 2 z z z z Az z z fun w11 hC25 hKp2=>?_
   try dsimp only [List.set] at hC25
   refine Ab ?_
   obtain rfl:=Aa hr4
   have hC26:=hC25.f6
   have hC27:=hC26.f6
   have hC28:=hC27.f6
   have hC29:=hC28.f6
   have hC30:=hC29.f6
   have hC31:=hC30.f5
   have hC32:=hC31.h6
   exact Ay (l':=[(4,(ptr b1 0)),(5,v1),(6,v2),(8,(ptr b2 0))]) ⟨z,z,z,z,Am⟩<|⟨x8.2.2.1,x8.2.2.2,v3,x1.2.2.1,x8.1,z,z,hC32⟩
  replace hr4:=AG hr4 hc1
  refine AR ?_
  obtain rfl:=Aa hr4
  exact Ay (l':=[(4,(ptr b1 0)),(5,v1),(6,v2),(8,(ptr b2 0))]) ⟨z,z,z,z,Am⟩<|⟨x3.2.2.1,x3.2.2.2,v3,x1.2.2.1,x2.1,z,z,hC9⟩
 rintro l1 _ w7 hs1 ⟨x4,x5,v4,x6,x7,rfl,rfl,hC10⟩
 try dsimp only at hF
 refine Bj hs1 ?_
 clear hs1
 refine AC<|W_drawn 6 z hmix fun w12 hB5=>have hC33:=hC10.grow hB5;tm 0 z z z<|tm 1 z z z<|ta 3 z z z<|ta 4 z z z<|oe 2 z<|Ar [v4,(I x7)] hC33 1 z z z A9 Aw z z<|Ab<|oe 5 z<|Al (cs':=[v4,(I x7)]) (new:=[v4,(I x7)]) hC33 5 z z (fac (AP (hC33.ro 4 z))<|fac z<|fa0) z Aw z z fun w13 hC34 hKp3=>?_
 try dsimp only [List.set] at hC34
 refine Ab<|dn<|Ax<|AL<|?_
 obtain rfl:=Aa hF
 refine BS z (rv_tmp z) (rv_tmp z) (rv_cell_agg (cs':=[v4,(I x7)]) hC34 (i:=5) z z z A9 Aw z)<|have hC36:=hC34.f4;?_
 have hC35:=Cl v4 x6 x7 hC36
 have hC37:=hC35.f4
 have hC38:=hC37.f4
 have hC39:=hC38.h4
 exact ⟨_,z,_,_,_,z,hC39⟩
theorem c_S_l25Change {w0:World} {Dx:List Nat} {wx:World} {Fs:List (List Nat)} (pb1:Nat) (a1:((List UInt8) × Int × Int)) (u1:Value) (g1:RO Fs.flatten w0 u1 a1.1) (a2:(List Int)) (u2:Value) (g2:RO Fs.flatten w0 u2 a2) (a3:((List (Int × (List Int))) × Int)) (u3:Value) (g3:RO Dx wx u3 a3.1) (kx:∀ w,Keep Fs.flatten w0 w → Keep Dx wx w) (hH:Hold [Ac pb1 [u1,(I a1.2.1),(I a1.2.2)]] w0 Fs) (hn:Fs.flatten.Nodup) (rr:((Bool × (Int × (List Int))) × ((List UInt8) × Int × Int))) (hF:S.l25Change a1 a2 a3=some rr) :
 Calls Tryz.prog 31 [(ptr pb1 0),u2,(.agg #[u3,(I a3.2)])].toArray w0 fun e w'=>∃v,e=.returned v∧∃q0:Value,v=q0∧Ctx Fs.flatten w0 w' [Ae (α:=(Ch Dx wx)) q0 rr.1,Ac pb1 [u1,(I rr.2.2.1),(I rr.2.2.2)]]:=by
 refine A4 Tryz.func31 z z ?_
 have hC0:=B4 hH hn
 unfold S.l25Change at hF
 refine Ad<|B0 (cs:=[u3,(I a3.2)]) hC0 z z z fun b1 w1 hC1 hB1 hN1=>AW hC1 zero31 z z fun b2 w2 hC2 hB2 hN2=>Ab<|AC<|be hF fun r1 hr1 hF=>BP (fun l w=>∃x1:Int,∃x2:Int,∃x3:Bool,(x1,x2,x3)=r1∧l=[(0,(ptr pb1 0)),(1,u2),(5,(ptr b1 0)),(6,(ptr b2 0)),(14,(.bool x3))]∧Ctx Fs.flatten w0 w [Ac b2 [(.bool false),(I 0),(.slice none 0 0)],Ac b1 [u3,(I a3.2)],Ac pb1 [u1,(I x1),(I x2)]]) ?_ ?_
 ·refine Bt<|fd A1 AV z z z z<|At hC2 1 z z Bq z z<|Bo Ah g3 z z<|Cs z z z<|Af z z<|B3 (fun hc1=>?_) (fun hc1=>?_)
  ·replace hr1:=AF hr1 hc1
   refine Aj z z<|Af z z<|be hr1 fun x4 hr2 hr1=>Aj z z<|have hC4:=hC2.f2;?_
   obtain ⟨Fs1,hH1,hn1,hF1,hO1,hb1⟩:=AB (As:=[Ac b2 [(.bool false),(I 0),(.slice none 0 0)],Ac b1 [u3,(I a3.2)]]) [Ac pb1 [u1,(I a1.2.1),(I a1.2.2)]] hC4
   refine A8 Cj z z (c_S_l1Once pb1 (a1.1,a1.2.1,a1.2.2) u1 (AJ g1 hC4.keep hF1) 2 hH1 hn1 x4 hr2) ?_
   rintro _ w4 ⟨rfl,hq1⟩
   have hC5:Ctx Fs.flatten w0 w4 [Ac pb1 [u1,(I x4.2.2.1),(I x4.2.2.2)],Ac b2 [(.bool false),(I 0),(.slice none 0 0)],Ac b1 [u3,(I a3.2)]]:=hb1 _ _ hq1
   refine AX z z z<|Ab<|?_
   obtain rfl:=Aa hr1
   have hC6:=hC5.f2
   have hC7:=hC6.f2
   exact Ay (l':=[(0,(ptr pb1 0)),(1,u2),(5,(ptr b1 0)),(6,(ptr b2 0)),(14,(.bool x4.1))]) ⟨z,z,z,z,z,Am⟩<|⟨x4.2.2.1,x4.2.2.2,x4.1,z,z,hC7⟩
  replace hr1:=AG hr1 hc1
  refine gs z z z z<|gs z z z z<|AH z z z<|Ab<|?_
  obtain rfl:=Aa hr1
  exact Ay (l':=[(0,(ptr pb1 0)),(1,u2),(5,(ptr b1 0)),(6,(ptr b2 0)),(14,(.bool false))]) ⟨z,z,z,z,z,Am⟩<|⟨a1.2.1,a1.2.2,false,z,z,hC2⟩
 rintro _ w3 ⟨x1,x2,x3,rfl,rfl,hC3⟩
 try dsimp only at hF
 refine AN z (fun hc2=>?_) (fun hc2=>?_)
 ·replace hF:=AF hF hc2
  refine AC<|W_drawn 11 z hmix fun w10 hB6=>have hC13:=hC3.grow hB6;tf 0 A1 AV z z z z z<|tm 2 z z z<|tf 3 A1 AV z z z z z<|BY (i:=1) (j:=4) (by kernel_rfl) z z ?_ ?_
  ·refine At hC13 1 z z Bq z z<|Ab<|oe 4 z<|At hC13 1 z z Bq z z<|Ab<|tk 5 z z (CZ Ah g3 z)<|Bo Ah g3 z z<|Ab<|be hF fun x12 hr5 hF=>oe 6 z<|have hC14:=hC13.f2;?_
   obtain ⟨Fs3,hH3,hn3,hF3,hO3,hb3⟩:=AB (As:=[Ac b2 [(.bool false),(I 0),(.slice none 0 0)],Ac b1 [u3,(I a3.2)]]) [Ac pb1 [u1,(I x1),(I x2)]] hC14
   refine A8 Bw z z (c_S_l1Below pb1 (a1.1,x1,x2) u1 (AJ g1 hC14.keep hF3) (List.length a3.1:Int) hH3 hn3 x12 hr5) ?_
   rintro _ w11 ⟨rfl,hq5⟩
   have hC15:Ctx Fs.flatten w0 w11 [Ac pb1 [u1,(I x12.2.2.1),(I x12.2.2.2)],Ac b2 [(.bool false),(I 0),(.slice none 0 0)],Ac b1 [u3,(I a3.2)]]:=hb3 _ _ hq5
   refine Ab<|be hF fun x13 hx2 hF=>tk 7 z z (BL Ah ty29 g3 hx2 z z)<|Bc Ah ty29 g3 hx2 z z z fun b4 o2 h4=>Ab<|oe 8 z<|Bf ty29 h4 (kx _ hC15.keep) z z fun v4 h5=>?_
   obtain ⟨v5,rfl,h6⟩:=BJ h5
   refine Ab<|tk 9 z z (Cm (vs:=[(1,(.agg #[(I x13.1),v5]))]) z z (built31_1 z))<|BB (vs:=[(1,(.agg #[(I x13.1),v5]))]) z z z (built31_1 z)<|Ab<|oe 10 z<|Al (cs':=[(.bool false),(I x13.1),v5]) (new:=[(.bool false),(I x13.1),v5]) hC15 1 z z (fac z<|fac z<|fac (AP h6)<|fa0) z Bx z z fun w12 hC16 hKp2=>?_
   try dsimp only [List.set] at hC16
   refine Ab<|dn<|Ax<|AL<|A7<|?_
   obtain rfl:=Aa hF
   refine BM z (rv_cell_agg (cs':=[(.bool false),(I x13.1),v5]) hC16 (i:=1) z z z BN Bx z) ?_
   have hC18:=hC16.pushSh h6
   have hC17:=own_ch false x13.1 v5 x13.2 hC18
   have hC19:=hC17.h2
   exact ⟨_,z,_,z,hC19⟩
  refine At hC13 1 z z Bq z z<|Ab<|tk 5 z z (CZ Ah g3 z)<|Bo Ah g3 z z<|Ab<|BY (i:=1) (j:=6) (by kernel_rfl) z z ?_ ?_
  ·refine At hC13 1 z z Bq z z<|Ab<|be hF fun x12 hr5 hF=>oe 6 z<|have hC14:=hC13.f2;?_
   obtain ⟨Fs3,hH3,hn3,hF3,hO3,hb3⟩:=AB (As:=[Ac b2 [(.bool false),(I 0),(.slice none 0 0)],Ac b1 [u3,(I a3.2)]]) [Ac pb1 [u1,(I x1),(I x2)]] hC14
   refine A8 Bw z z (c_S_l1Below pb1 (a1.1,x1,x2) u1 (AJ g1 hC14.keep hF3) (List.length a3.1:Int) hH3 hn3 x12 hr5) ?_
   rintro _ w11 ⟨rfl,hq5⟩
   have hC15:Ctx Fs.flatten w0 w11 [Ac pb1 [u1,(I x12.2.2.1),(I x12.2.2.2)],Ac b2 [(.bool false),(I 0),(.slice none 0 0)],Ac b1 [u3,(I a3.2)]]:=hb3 _ _ hq5
   refine Ab<|be hF fun x13 hx2 hF=>tk 7 z z (BL Ah ty29 g3 hx2 z z)<|Bc Ah ty29 g3 hx2 z z z fun b4 o2 h4=>Ab<|oe 8 z<|Bf ty29 h4 (kx _ hC15.keep) z z fun v4 h5=>?_
   obtain ⟨v5,rfl,h6⟩:=BJ h5
   refine Ab<|tk 9 z z (Cm (vs:=[(1,(.agg #[(I x13.1),v5]))]) z z (built31_1 z))<|BB (vs:=[(1,(.agg #[(I x13.1),v5]))]) z z z (built31_1 z)<|Ab<|oe 10 z<|Al (cs':=[(.bool false),(I x13.1),v5]) (new:=[(.bool false),(I x13.1),v5]) hC15 1 z z (fac z<|fac z<|fac (AP h6)<|fa0) z Bx z z fun w12 hC16 hKp2=>?_
   try dsimp only [List.set] at hC16
   refine Ab<|dn<|Ax<|AL<|A7<|?_
   obtain rfl:=Aa hF
   refine BM z (rv_cell_agg (cs':=[(.bool false),(I x13.1),v5]) hC16 (i:=1) z z z BN Bx z) ?_
   have hC18:=hC16.pushSh h6
   have hC17:=own_ch false x13.1 v5 x13.2 hC18
   have hC19:=hC17.h2
   exact ⟨_,z,_,z,hC19⟩
  refine be hF fun x12 hr5 hF=>have hC14:=hC13.f2;?_
  obtain ⟨Fs3,hH3,hn3,hF3,hO3,hb3⟩:=AB (As:=[Ac b2 [(.bool false),(I 0),(.slice none 0 0)],Ac b1 [u3,(I a3.2)]]) [Ac pb1 [u1,(I x1),(I x2)]] hC14
  refine A8 Bw z z (c_S_l1Below pb1 (a1.1,x1,x2) u1 (AJ g1 hC14.keep hF3) (List.length a3.1:Int) hH3 hn3 x12 hr5) ?_
  rintro _ w11 ⟨rfl,hq5⟩
  have hC15:Ctx Fs.flatten w0 w11 [Ac pb1 [u1,(I x12.2.2.1),(I x12.2.2.2)],Ac b2 [(.bool false),(I 0),(.slice none 0 0)],Ac b1 [u3,(I a3.2)]]:=hb3 _ _ hq5
  refine Ab<|oe 1 z<|At hC15 2 z z Bq z z<|Ab<|be hF fun x13 hx2 hF=>tk 7 z z (BL Ah ty29 g3 hx2 z z)<|Bc Ah ty29 g3 hx2 z z z fun b4 o2 h4=>Ab<|oe 8 z<|Bf ty29 h4 (kx _ hC15.keep) z z fun v4 h5=>?_
  obtain ⟨v5,rfl,h6⟩:=BJ h5
  refine Ab<|tk 9 z z (Cm (vs:=[(1,(.agg #[(I x13.1),v5]))]) z z (built31_1 z))<|BB (vs:=[(1,(.agg #[(I x13.1),v5]))]) z z z (built31_1 z)<|Ab<|oe 10 z<|Al (cs':=[(.bool false),(I x13.1),v5]) (new:=[(.bool false),(I x13.1),v5]) hC15 1 z z (fac z<|fac z<|fac (AP h6)<|fa0) z Bx z z fun w12 hC16 hKp2=>?_
  try dsimp only [List.set] at hC16
  refine Ab<|dn<|Ax<|AL<|A7<|?_
  obtain rfl:=Aa hF
  refine BM z (rv_cell_agg (cs':=[(.bool false),(I x13.1),v5]) hC16 (i:=1) z z z BN Bx z) ?_
  have hC18:=hC16.pushSh h6
  have hC17:=own_ch false x13.1 v5 x13.2 hC18
  have hC19:=hC17.h2
  exact ⟨_,z,_,z,hC19⟩
 replace hF:=AG hF hc2
 refine AR<|Ax<|AC<|Ad<|Af z z<|be hF fun x14 hr6 hF=>cb Ck z z (c_S_IsSchema a2 u2 (g2.now hC3.keep) x14 hr6) fun w13 hB7=>have hC20:=hC3.grow hB7;B2 z z<|Ab<|AN z (fun hc3=>?_) (fun hc3=>?_)
 ·replace hF:=AF hF hc3
  refine Ad<|BB (vs:=[(0,(.bool true))]) z z z (built31_0 z)<|Al (cs':=[(.bool true),(I 0),(.slice none 0 0)]) (new:=[(.bool true),(I 0),(.slice none 0 0)]) hC20 0 z z (fac z<|fac z<|fac z<|fa0) z Bx z z fun w14 hC21 hKp3=>?_
  try dsimp only [List.set] at hC21
  refine Ab (AL (A7 ?_))
  obtain rfl:=Aa hF
  refine BM z (rv_cell_agg (cs':=[(.bool true),(I 0),(.slice none 0 0)]) hC21 (i:=0) z z z BN Bx z)<|have hC22:=hC21.f2;?_
  have hC24:=hC22.triv (nil_val (α:=Int))
  have hC25:=hC24.toSh Dx wx
  have hC23:=own_ch true 0 (.slice none 0 0) ([]) hC25
  have hC26:=hC23.h2
  exact ⟨_,z,_,z,hC26⟩
 replace hF:=AG hF hc3
 refine AR<|Ax<|Ad<|Af z z<|Af z z<|be hF fun x15 hr7 hF=>have hC27:=hC20.f2;?_
 obtain ⟨Fs4,hH4,hn4,hF4,hO4,hb4⟩:=AB (As:=[Ac b2 [(.bool false),(I 0),(.slice none 0 0)],Ac b1 [u3,(I a3.2)]]) [Ac pb1 [u1,(I x1),(I x2)]] hC27
 refine A8 Tryz.call66 z z (c_S_l2Fact pb1 (a1.1,x1,x2) u1 (AJ g1 hC27.keep hF4) a2 u2 (AJ g2 hC27.keep hF4) 4 hH4 hn4 x15 hr7) ?_
 rintro v6 w15 ⟨_,rfl,hq8⟩
 have hC28:Ctx Fs.flatten w0 w15 [Ae v6 (x15.1:(Int × (List Int))),Ac pb1 [u1,(I x15.2.2.1),(I x15.2.2.2)],Ac b2 [(.bool false),(I 0),(.slice none 0 0)],Ac b1 [u3,(I a3.2)]]:=hb4 _ _ hq8
 obtain ⟨v7,rfl,hC29⟩:=st29_own hC28
 refine BB (vs:=[(0,(.bool true)),(1,(.agg #[(I x15.1.1),v7]))]) z z z (built31_0_1 z z)<|Al (cs':=[(.bool true),(I x15.1.1),v7]) (new:=[(.bool true),(I x15.1.1),v7]) hC29 2 z z (fac z<|fac z<|fac (AP (hC29.ro 0 z))<|fa0) z Bx z z fun w16 hC30 hKp4=>?_
 try dsimp only [List.set] at hC30
 refine Ab (AL ?_)
 obtain rfl:=Aa hF
 refine BM z (rv_cell_agg (cs':=[(.bool true),(I x15.1.1),v7]) hC30 (i:=2) z z z BN Bx z)<|have hC31:=hC30.f1;have hC33:=hC31.f1;?_
 have hC34:=hC33.toSh Dx wx
 have hC32:=own_ch true x15.1.1 v7 x15.1.2 hC34
 have hC35:=hC32.h2
 exact ⟨_,z,_,z,hC35⟩
theorem c_S_DrawApplyChange {w0:World} (a1:(List UInt8)) (u1:Value) (g1:RO [] w0 u1 a1) (rr:((List Int) × ((List (Int × (List Int))) × Int) × (Bool × (Int × (List Int))))) (hF:S.DrawApplyChange a1=some rr) :
 Calls Tryz.prog 6 [u1].toArray w0 fun e w'=>∃v,e=.returned v∧∃q0:Value,∃q1:Value,∃q2:Value,v=(.tuple #[q0,(.agg #[q1,(I rr.2.1.2)]),(.agg #[(.bool rr.2.2.1),(I rr.2.2.2.1),q2])])∧Below w0.heap.size w0 w'∧RO [] w' q0 rr.1∧RO [] w' q1 rr.2.1.1∧RO [] w' q2 rr.2.2.2.2:=by
 refine A4 Tryz.func6 z z ?_
 have hC0:=AD w0
 unfold S.DrawApplyChange at hF
 refine Ad<|Ag z z<|AW hC0 zero27 z z fun b1 w1 hC1 hB1 hN1=>AW hC1 zero31 z z fun b2 w2 hC2 hB2 hN2=>Ab<|Ad<|Af z z<|be hF fun x1 hr1 hF=>A8 CK z z (c_S_l1New a1 u1 (g1.now hC2.keep) x1 hr1)<|?_
 rintro _ w3 ⟨b3,rfl,hq1⟩
 have hC3:Ctx [] w0 w3 [Ac b3 [u1,(I x1.2.1),(I x1.2.2)],Ac b2 [(.bool false),(I 0),(.slice none 0 0)],Ac b1 [(.slice none 0 0),(I 0)]]:=hC2.push2 hq1
 refine Ag z z<|Ab<|Ad<|Af z z<|be hF fun x2 hr2 hF=>?_
 obtain ⟨Fs2,hH2,hn2,hF2,hO2,hb2⟩:=AB (As:=[Ac b2 [(.bool false),(I 0),(.slice none 0 0)],Ac b1 [(.slice none 0 0),(I 0)]]) [Ac b3 [u1,(I x1.2.1),(I x1.2.2)]] hC3
 refine A8 CL z z (c_S_l25Draw b3 (a1,x1.2.1,x1.2.2) u1 (AJ g1 hC3.keep hF2) hH2 hn2 x2 hr2) ?_
 rintro _ w4 ⟨v1,v2,v3,rfl,hq2⟩
 have hC4:Ctx [] w0 w4 [Ae v1 (x2.1:(List Int)),Ae v2 (x2.2.1:(List (Int × (List Int) × Int × Int × Int))),Ae v3 (x2.2.2.1:((List (Int × (List Int))) × Int)),Ac b3 [u1,(I x2.2.2.2.2.1),(I x2.2.2.2.2.2)],Ac b2 [(.bool false),(I 0),(.slice none 0 0)],Ac b1 [(.slice none 0 0),(I 0)]]:=hb2 _ _ hq2
 have hC5:=hC4.f2
 obtain ⟨v4,rfl,hC6⟩:=st27_own hC5
 have hC7:=hC6.f5
 have hC8:=hC7.f5
 have hC9:=hC8.f5
 obtain ⟨Fs3,hH3,hn3,hF3,hO3,hb3⟩:=AB (As:=[Ae v4 (x2.2.2.1.1:(List (Int × (List Int)))),Ae v1 (x2.1:(List Int)),Ae v2 (x2.2.1:(List (Int × (List Int) × Int × Int × Int)))]) [Ac b3 [u1,(I x2.2.2.2.2.1),(I x2.2.2.2.2.2)],Ac b2 [(.bool false),(I 0),(.slice none 0 0)],Ac b1 [(.slice none 0 0),(I 0)]] hC9
 have g2:=hO3 0 _ _ _ z
 have g3:=hO3 1 _ _ _ z
 have g4:=hO3 2 _ _ _ z
 have g5:=AJ g1 hC9.keep hF3
 have hC10:=B4 hH3 hn3
 refine Af z z<|AM z z z<|AM z z z<|AM z z z<|AW hC10 zero27 z z fun b4 w5 hC11 hB3 hN3=>Ag z z<|Ag z z<|Al (cs':=[v4,(I x2.2.2.1.2)]) (new:=[v4,(I x2.2.2.1.2)]) hC11 0 z z (fac (AP g2)<|fac z<|fa0) z Aw z z fun w6 hC12 hKp1=>?_
 try dsimp only [List.set] at hC12
 have hk1:=Ak (Ao hB3) hN3 hKp1
 refine Ab<|AC<|Ad<|Af z z<|be hF fun x3 hr3 hF=>have hC13:=hC12.f1;?_
 obtain ⟨Fs4,hH4,hn4,hF4,hO4,hb4⟩:=AB (As:=[Ac b4 [v4,(I x2.2.2.1.2)],Ac b2 [(.bool false),(I 0),(.slice none 0 0)],Ac b1 [(.slice none 0 0),(I 0)]]) [Ac b3 [u1,(I x2.2.2.2.2.1),(I x2.2.2.2.2.2)]] hC13
 refine A8 Cj z z (c_S_l1Once b3 (a1,x2.2.2.2.2.1,x2.2.2.2.2.2) u1 (AJ g5 hC13.keep hF4) 8 hH4 hn4 x3 hr3) ?_
 rintro _ w7 ⟨rfl,hq3⟩
 have hC14:Ctx Fs3.flatten w4 w7 [Ac b3 [u1,(I x3.2.2.1),(I x3.2.2.2)],Ac b4 [v4,(I x2.2.2.1.2)],Ac b2 [(.bool false),(I 0),(.slice none 0 0)],Ac b1 [(.slice none 0 0),(I 0)]]:=hb4 _ _ hq3
 refine Ab<|AN z (fun hc1=>?_) (fun hc1=>?_)
 ·replace hF:=AF hF hc1
  refine AC<|W_drawn 9 z hmix fun w14 hB6=>have hC21:=hC14.grow hB6;tm 0 z z z<|tm 2 z z z<|tm 3 z z z<|BY (i:=1) (j:=4) (by kernel_rfl) z z ?_ ?_
  ·refine Ar [v4,(I x2.2.2.1.2)] hC21 1 z z z A9 Aw z z<|Ab<|be hF fun x13 hr6 hF=>oe 4 z<|?_
   obtain ⟨Fs6,hH6,hn6,hF6,hO6,hb6⟩:=AB (As:=[Ac b4 [v4,(I x2.2.2.1.2)],Ac b2 [(.bool false),(I 0),(.slice none 0 0)],Ac b1 [(.slice none 0 0),(I 0)]]) [Ac b3 [u1,(I x3.2.2.1),(I x3.2.2.2)]] hC21
   refine A8 Tryz.call30 z z (c_S_l2AnyFact b3 (a1,x3.2.2.1,x3.2.2.2) u1 (AJ g5 hC21.keep hF6) x2.1 v1 (AJ g3 hC21.keep hF6) hH6 hn6 x13 hr6) ?_
   rintro v10 w15 ⟨_,rfl,hq5⟩
   have hC22:Ctx Fs3.flatten w4 w15 [Ae v10 (x13.1:(Int × (List Int))),Ac b3 [u1,(I x13.2.2.1),(I x13.2.2.2)],Ac b4 [v4,(I x2.2.2.1.2)],Ac b2 [(.bool false),(I 0),(.slice none 0 0)],Ac b1 [(.slice none 0 0),(I 0)]]:=hb6 _ _ hq5
   obtain ⟨v11,rfl,hC23⟩:=st29_own hC22
   refine Ab<|tk 5 z z (Cm (vs:=[(0,(.bool true)),(1,(.agg #[(I x13.1.1),v11]))]) z z (built31_0_1 z z))<|BB (vs:=[(0,(.bool true)),(1,(.agg #[(I x13.1.1),v11]))]) z z z (built31_0_1 z z)<|Ab<|ta 6 z z z<|oe 7 z<|Al (cs':=[v4,(I x2.2.2.1.2)]) (new:=[v4,(I x2.2.2.1.2)]) hC23 4 z z (fac (AP g2)<|fac z<|fa0) z Aw z z fun w16 hC24 hKp4=>?_
   try dsimp only [List.set] at hC24
   refine Ab<|oe 8 z<|Al (cs':=[(.bool true),(I x13.1.1),v11]) (new:=[(.bool true),(I x13.1.1),v11]) hC24 3 z z (fac z<|fac z<|fac (AP (hC24.ro 0 z))<|fa0) z Bx z z fun w17 hC25 hKp5=>?_
   try dsimp only [List.set] at hC25
   refine Ab<|dn<|Ax<|AL<|A7<|?_
   obtain rfl:=Aa hF
   exact BS z (rv_tmp z) (rv_cell_agg (cs':=[v4,(I x2.2.2.1.2)]) hC25 (i:=4) z z z A9 Aw z) (rv_cell_agg (cs':=[(.bool true),(I x13.1.1),v11]) hC25 (i:=3) z z z BN Bx z)<|⟨_,z,_,_,_,z,(hb3 _ _ hC25).keep.below,(g3.now hC25.keep),(g2.now hC25.keep),(hC25.ro 0 z)⟩
  obtain ⟨x13,hr6,hF⟩:=Cz hF
  obtain ⟨Fs6,hH6,hn6,hF6,hO6,hb6⟩:=AB (As:=[Ac b4 [v4,(I x2.2.2.1.2)],Ac b2 [(.bool false),(I 0),(.slice none 0 0)],Ac b1 [(.slice none 0 0),(I 0)]]) [Ac b3 [u1,(I x3.2.2.1),(I x3.2.2.2)]] hC21
  refine A8 Tryz.call30 z z (c_S_l2AnyFact b3 (a1,x3.2.2.1,x3.2.2.2) u1 (AJ g5 hC21.keep hF6) x2.1 v1 (AJ g3 hC21.keep hF6) hH6 hn6 x13 hr6) ?_
  rintro v10 w15 ⟨_,rfl,hq5⟩
  have hC22:Ctx Fs3.flatten w4 w15 [Ae v10 (x13.1:(Int × (List Int))),Ac b3 [u1,(I x13.2.2.1),(I x13.2.2.2)],Ac b4 [v4,(I x2.2.2.1.2)],Ac b2 [(.bool false),(I 0),(.slice none 0 0)],Ac b1 [(.slice none 0 0),(I 0)]]:=hb6 _ _ hq5
  obtain ⟨v11,rfl,hC23⟩:=st29_own hC22
  refine Ab<|tk 5 z z (Cm (vs:=[(0,(.bool true)),(1,(.agg #[(I x13.1.1),v11]))]) z z (built31_0_1 z z))<|BB (vs:=[(0,(.bool true)),(1,(.agg #[(I x13.1.1),v11]))]) z z z (built31_0_1 z z)<|Ab<|ta 6 z z z<|oe 1 z<|Ar [v4,(I x2.2.2.1.2)] hC23 2 z z z A9 Aw z z<|Ab<|oe 7 z<|Al (cs':=[v4,(I x2.2.2.1.2)]) (new:=[v4,(I x2.2.2.1.2)]) hC23 4 z z (fac (AP g2)<|fac z<|fa0) z Aw z z fun w16 hC24 hKp4=>?_
  try dsimp only [List.set] at hC24
  refine Ab<|oe 8 z<|Al (cs':=[(.bool true),(I x13.1.1),v11]) (new:=[(.bool true),(I x13.1.1),v11]) hC24 3 z z (fac z<|fac z<|fac (AP (hC24.ro 0 z))<|fa0) z Bx z z fun w17 hC25 hKp5=>?_
  try dsimp only [List.set] at hC25
  refine Ab<|dn<|Ax<|AL<|A7<|?_
  obtain rfl:=Aa hF
  exact BS z (rv_tmp z) (rv_cell_agg (cs':=[v4,(I x2.2.2.1.2)]) hC25 (i:=4) z z z A9 Aw z) (rv_cell_agg (cs':=[(.bool true),(I x13.1.1),v11]) hC25 (i:=3) z z z BN Bx z)<|⟨_,z,_,_,_,z,(hb3 _ _ hC25).keep.below,(g3.now hC25.keep),(g2.now hC25.keep),(hC25.ro 0 z)⟩
 replace hF:=AG hF hc1
 refine AR<|Ax<|AC<|W_drawn 9 z hmix fun w23 hB9=>have hC32:=hC14.grow hB9;tm 0 z z z<|tm 2 z z z<|tm 3 z z z<|BY (i:=1) (j:=4) (by kernel_rfl) z z ?_ ?_
 ·refine Ar [v4,(I x2.2.2.1.2)] hC32 1 z z z A9 Aw z z<|Ab<|oe 4 z<|Ar [v4,(I x2.2.2.1.2)] hC32 1 z z z A9 Aw z z<|Ab<|be hF fun x23 hr9 hF=>oe 5 z<|?_
  obtain ⟨Fs8,hH8,hn8,hF8,hO8,hb8⟩:=AB (As:=[Ac b4 [v4,(I x2.2.2.1.2)],Ac b2 [(.bool false),(I 0),(.slice none 0 0)],Ac b1 [(.slice none 0 0),(I 0)]]) [Ac b3 [u1,(I x3.2.2.1),(I x3.2.2.2)]] hC32
  refine A8 CM z z (c_S_l25Change b3 (a1,x3.2.2.1,x3.2.2.2) u1 (AJ g5 hC32.keep hF8) x2.1 v1 (AJ g3 hC32.keep hF8) (x2.2.2.1.1,x2.2.2.1.2) v4 g2 (fun w h=>hC32.keep.trans h hF8) hH8 hn8 x23 hr9) ?_
  rintro v17 w24 ⟨_,rfl,hq8⟩
  have hC33:Ctx Fs3.flatten w4 w24 [Ae (α:=(Ch Fs3.flatten w4)) v17 x23.1,Ac b3 [u1,(I x23.2.2.1),(I x23.2.2.2)],Ac b4 [v4,(I x2.2.2.1.2)],Ac b2 [(.bool false),(I 0),(.slice none 0 0)],Ac b1 [(.slice none 0 0),(I 0)]]:=hb8 _ _ hq8
  obtain ⟨v18,rfl,hC34⟩:=ch_own hC33
  refine Ab<|ta 6 z z z<|oe 7 z<|Al (cs':=[v4,(I x2.2.2.1.2)]) (new:=[v4,(I x2.2.2.1.2)]) hC34 4 z z (fac (AP g2)<|fac z<|fa0) z Aw z z fun w25 hC35 hKp8=>?_
  try dsimp only [List.set] at hC35
  refine Ab<|oe 8 z<|Al (cs':=[(.bool x23.1.1),(I x23.1.2.1),v18]) (new:=[(.bool x23.1.1),(I x23.1.2.1),v18]) hC35 3 z z (fac z<|fac z<|fac (AP (hC35.roShK hC35.keep 0 z))<|fa0) z Bx z z fun w26 hC36 hKp9=>?_
  try dsimp only [List.set] at hC36
  refine Ab<|dn<|Ax<|AL<|?_
  obtain rfl:=Aa hF
  exact BS z (rv_tmp z) (rv_cell_agg (cs':=[v4,(I x2.2.2.1.2)]) hC36 (i:=4) z z z A9 Aw z) (rv_cell_agg (cs':=[(.bool x23.1.1),(I x23.1.2.1),v18]) hC36 (i:=3) z z z BN Bx z)<|⟨_,z,_,_,_,z,(hb3 _ _ hC36).keep.below,(g3.now hC36.keep),(g2.now hC36.keep),(hC36.roSh 0 z)⟩
 refine Ar [v4,(I x2.2.2.1.2)] hC32 1 z z z A9 Aw z z<|Ab<|BY (i:=1) (j:=5) (by kernel_rfl) z z ?_ ?_
 ·refine Ar [v4,(I x2.2.2.1.2)] hC32 1 z z z A9 Aw z z<|Ab<|be hF fun x23 hr9 hF=>oe 5 z<|?_
  obtain ⟨Fs8,hH8,hn8,hF8,hO8,hb8⟩:=AB (As:=[Ac b4 [v4,(I x2.2.2.1.2)],Ac b2 [(.bool false),(I 0),(.slice none 0 0)],Ac b1 [(.slice none 0 0),(I 0)]]) [Ac b3 [u1,(I x3.2.2.1),(I x3.2.2.2)]] hC32
  refine A8 CM z z (c_S_l25Change b3 (a1,x3.2.2.1,x3.2.2.2) u1 (AJ g5 hC32.keep hF8) x2.1 v1 (AJ g3 hC32.keep hF8) (x2.2.2.1.1,x2.2.2.1.2) v4 g2 (fun w h=>hC32.keep.trans h hF8) hH8 hn8 x23 hr9) ?_
  rintro v17 w24 ⟨_,rfl,hq8⟩
  have hC33:Ctx Fs3.flatten w4 w24 [Ae (α:=(Ch Fs3.flatten w4)) v17 x23.1,Ac b3 [u1,(I x23.2.2.1),(I x23.2.2.2)],Ac b4 [v4,(I x2.2.2.1.2)],Ac b2 [(.bool false),(I 0),(.slice none 0 0)],Ac b1 [(.slice none 0 0),(I 0)]]:=hb8 _ _ hq8
  obtain ⟨v18,rfl,hC34⟩:=ch_own hC33
  refine Ab<|ta 6 z z z<|oe 7 z<|Al (cs':=[v4,(I x2.2.2.1.2)]) (new:=[v4,(I x2.2.2.1.2)]) hC34 4 z z (fac (AP g2)<|fac z<|fa0) z Aw z z fun w25 hC35 hKp8=>?_
  try dsimp only [List.set] at hC35
  refine Ab<|oe 8 z<|Al (cs':=[(.bool x23.1.1),(I x23.1.2.1),v18]) (new:=[(.bool x23.1.1),(I x23.1.2.1),v18]) hC35 3 z z (fac z<|fac z<|fac (AP (hC35.roShK hC35.keep 0 z))<|fa0) z Bx z z fun w26 hC36 hKp9=>?_
  try dsimp only [List.set] at hC36
  refine Ab<|dn<|Ax<|AL<|?_
  obtain rfl:=Aa hF
  exact BS z (rv_tmp z) (rv_cell_agg (cs':=[v4,(I x2.2.2.1.2)]) hC36 (i:=4) z z z A9 Aw z) (rv_cell_agg (cs':=[(.bool x23.1.1),(I x23.1.2.1),v18]) hC36 (i:=3) z z z BN Bx z)<|⟨_,z,_,_,_,z,(hb3 _ _ hC36).keep.below,(g3.now hC36.keep),(g2.now hC36.keep),(hC36.roSh 0 z)⟩
 obtain ⟨x23,hr9,hF⟩:=Cz hF
 obtain ⟨Fs8,hH8,hn8,hF8,hO8,hb8⟩:=AB (As:=[Ac b4 [v4,(I x2.2.2.1.2)],Ac b2 [(.bool false),(I 0),(.slice none 0 0)],Ac b1 [(.slice none 0 0),(I 0)]]) [Ac b3 [u1,(I x3.2.2.1),(I x3.2.2.2)]] hC32
 refine A8 CM z z (c_S_l25Change b3 (a1,x3.2.2.1,x3.2.2.2) u1 (AJ g5 hC32.keep hF8) x2.1 v1 (AJ g3 hC32.keep hF8) (x2.2.2.1.1,x2.2.2.1.2) v4 g2 (fun w h=>hC32.keep.trans h hF8) hH8 hn8 x23 hr9) ?_
 rintro v17 w24 ⟨_,rfl,hq8⟩
 have hC33:Ctx Fs3.flatten w4 w24 [Ae (α:=(Ch Fs3.flatten w4)) v17 x23.1,Ac b3 [u1,(I x23.2.2.1),(I x23.2.2.2)],Ac b4 [v4,(I x2.2.2.1.2)],Ac b2 [(.bool false),(I 0),(.slice none 0 0)],Ac b1 [(.slice none 0 0),(I 0)]]:=hb8 _ _ hq8
 obtain ⟨v18,rfl,hC34⟩:=ch_own hC33
 refine Ab<|ta 6 z z z<|oe 1 z<|Ar [v4,(I x2.2.2.1.2)] hC34 2 z z z A9 Aw z z<|Ab<|oe 7 z<|Al (cs':=[v4,(I x2.2.2.1.2)]) (new:=[v4,(I x2.2.2.1.2)]) hC34 4 z z (fac (AP g2)<|fac z<|fa0) z Aw z z fun w25 hC35 hKp8=>?_
 try dsimp only [List.set] at hC35
 refine Ab<|oe 8 z<|Al (cs':=[(.bool x23.1.1),(I x23.1.2.1),v18]) (new:=[(.bool x23.1.1),(I x23.1.2.1),v18]) hC35 3 z z (fac z<|fac z<|fac (AP (hC35.roShK hC35.keep 0 z))<|fa0) z Bx z z fun w26 hC36 hKp9=>?_
 try dsimp only [List.set] at hC36
 refine Ab<|dn<|Ax<|AL<|?_
 obtain rfl:=Aa hF
 exact BS z (rv_tmp z) (rv_cell_agg (cs':=[v4,(I x2.2.2.1.2)]) hC36 (i:=4) z z z A9 Aw z) (rv_cell_agg (cs':=[(.bool x23.1.1),(I x23.1.2.1),v18]) hC36 (i:=3) z z z BN Bx z)<|⟨_,z,_,_,_,z,(hb3 _ _ hC36).keep.below,(g3.now hC36.keep),(g2.now hC36.keep),(hC36.roSh 0 z)⟩
theorem c_M_within {w0:World} (a1:Int) (a2:Int) (a3:Int) (rr:Bool) (hF:M.within a1 a2 a3=some rr) :
 Calls Tryz.prog 45 [(I a1),(I a2),(I a3)].toArray w0 fun e w'=>∃v,e=.returned v∧Res w0 rr v w':=by
 refine A4 Tryz.func45 z z ?_
 have hC0:=AD w0
 unfold M.within at hF
 refine Ad<|Ag z z<|Ab<|be hF fun r1 hr1 hF=>BP (fun l w=>∃x1:Bool,x1=r1∧l=[(6,(.bool x1))]∧Below w0.heap.size w0 w∧Ctx [] w0 w []) ?_ ?_
 ·refine Bt<|Af z z<|Af z z<|C7 z z z<|Af z z<|B3 (fun hc1=>?_) (fun hc1=>?_)
  ·replace hr1:=AF hr1 hc1
   refine Aj z z<|Af z z<|Aj z z<|Af z z<|Aj z z<|CH z z z<|AX z z z<|Ag z z<|Ab<|?_
   obtain rfl:=Aa hr1
   exact Ay (l':=[(6,(.bool (decide (a1 ≤ a3))))]) ⟨z,Am⟩<|⟨(decide (a1 ≤ a3)),z,z,(Aq _ _),hC0⟩
  replace hr1:=AG hr1 hc1
  refine gs z z z z<|gs z z z z<|gs z z z z<|AH z z z<|Ag z z<|Ab<|?_
  obtain rfl:=Aa hr1
  exact Ay (l':=[(6,(.bool false))]) ⟨z,Am⟩<|⟨false,z,z,(Aq _ _),hC0⟩
 rintro _ w1 ⟨x1,rfl,rfl,hB1,hC1⟩
 try dsimp only at hF
 refine AL ?_
 obtain rfl:=Aa hF
 exact AE z z<|⟨_,z,Bh hC1 _⟩
theorem c_M_IsSchema_c1 {w0:World} (a1:Int) (rr:Bool) (hF:M.IsSchema_c1 a1=some rr) :
 Calls Tryz.prog 99 [(I a1)].toArray w0 fun e w'=>∃v,e=.returned v∧Res w0 rr v w':=by
 refine A4 Tryz.func99 z z ?_
 have hC0:=AD w0
 unfold M.IsSchema_c1 at hF
 refine Ad<|Ag z z<|Ab<|Ad<|Af z z<|be hF fun x1 hr1 hF=>cb BR z z (c_M_within a1 1 3 x1 hr1) fun w1 hB1=>have hC1:=hC0.grow hB1;B2 z z<|Ag z z<|Ab<|AL<|?_
 obtain rfl:=Aa hF
 exact AE z z<|⟨_,z,Bh hC1 _⟩
theorem c_Slices_IndexFunc_Lint_int_M_IsSchema_c1 {w0:World} (a1:(List Int)) (u1:Value) (g1:RO [] w0 u1 a1) (rr:Int) (hF:Slices.IndexFunc_Lint_int_M_IsSchema_c1 a1=some rr) :
 Calls Tryz.prog 105 [u1,(.func (.func 99) #[] #[])].toArray w0 fun e w'=>∃v,e=.returned v∧Res w0 rr v w':=by
 refine A4 Tryz.func105 z z ?_
 have hC0:=AD w0
 unfold Slices.IndexFunc_Lint_int_M_IsSchema_c1 at hF
 refine Ad<|Ag z z<|Ab<|AC<|Ad<|Af z z<|Bo Ap g1 z z<|Af z z<|Ab<|be hF fun r1 hr1 hF=>Bv (fun l w=>.inl ()=r1∧l=[]∧Below w0.heap.size w0 w∧Ctx [] w0 w []) ?_ ?_
 ·refine Bb<|wS (l':=[(0,u1),(1,(.func (.func 99) #[] #[])),(7,(I (List.length a1:Int))),(8,(I 0))]) ⟨z,z,z,z,Am⟩<|BC (fun k l w=>∃x1:Int,l=[(0,u1),(1,(.func (.func 99) #[] #[])),(7,(I (List.length a1:Int))),(8,(I x1))]∧Below w0.heap.size w0 w∧Ctx [] w0 w []∧Slices.IndexFunc_Lint_int_M_IsSchema_c1_l1 a1 k x1=some r1) FUEL ⟨0,z,(Aq _ _),hC0,hr1⟩<|?_
  clear hr1
  rintro k1 _ w1 ⟨x1,rfl,hB1,hC1,hL1⟩
  cases k1 with
  | zero=>rw [Slices.IndexFunc_Lint_int_M_IsSchema_c1_l1] at hL1; cases hL1
  | succ k1 =>
   rw [Slices.IndexFunc_Lint_int_M_IsSchema_c1_l1] at hL1
   refine Ad<|B6 z z z<|Ab<|AC<|AN z (fun hc1=>?_) (fun hc1=>?_)
   ·replace hL1:=AF hL1 hc1
    refine AR<|Ax<|AC<|Bb<|Ad<|Af z z<|Ag z z<|Ab<|Ad<|Af z z<|Af z z<|Af z z<|be hL1 fun x2 hx1 hL1=>Bc Ap ty3 g1 hx1 z z z fun b1 o1 h1=>Bf ty3 h1 hC1.keep z z fun v1 h2=>?_
    obtain rfl:=BG h2
    refine be hL1 fun x3 hr2 hL1=>Cu (cap:=[]) Tryz.call99 z z z (c_M_IsSchema_c1 x2 x3 hr2) fun _ w2 hv1=>?_
    obtain ⟨rfl,hB2⟩:=Cv hv1
    have hC2:=hC1.grow hB2
    refine Ab<|AN z (fun hc2=>?_) (fun hc2=>?_)
    ·replace hL1:=AF hL1 hc2
     refine Ad<|Af z z<|Ag z z<|Ab<|AL<|Bz<|A7<|A7<|Bz<|A7<|A7<|?_
     obtain rfl:=Aa hL1
     dsimp only at hF
     obtain rfl:=Aa hF
     exact AE z z<|⟨_,z,B7 hC2 _⟩
    replace hL1:=AG hL1 hc2
    exact AR<|Bi<|Ax<|Bt<|By z z z<|Af z z<|Ab<|Ay (l':=[(0,u1),(1,(.func (.func 99) #[] #[])),(7,(I (List.length a1:Int))),(8,(I (w64 (x1+1))))]) ⟨z,z,z,z,Am⟩<|⟨k1,AS _,w64 (x1+1),z,((Ao hB1).then hB2).below,hC2,hL1⟩
   replace hL1:=AG hL1 hc1
   refine BD (AY (AY (B1 ?_)))
   obtain rfl:=Aa hL1
   exact Ay (l':=[]) Am<|⟨z,z,(Ao hB1).below,hC1⟩
 rintro l2 _ w3 hs2 ⟨rfl,rfl,hB3,hC3⟩
 try dsimp only at hF
 refine Bj hs2 ?_
 clear hs2
 refine Ad<|Ag z z<|Ab<|AL<|?_
 obtain rfl:=Aa hF
 exact AE z z<|⟨_,z,B7 hC3 _⟩
theorem c_Slices_ContainsFunc_Lint_int_M_IsSchema_c1 {w0:World} (a1:(List Int)) (u1:Value) (g1:RO [] w0 u1 a1) (rr:Bool) (hF:Slices.ContainsFunc_Lint_int_M_IsSchema_c1 a1=some rr) :
 Calls Tryz.prog 93 [u1,(.func (.func 99) #[] #[])].toArray w0 fun e w'=>∃v,e=.returned v∧Res w0 rr v w':=by
 refine A4 Tryz.func93 z z ?_
 have hC0:=AD w0
 unfold Slices.ContainsFunc_Lint_int_M_IsSchema_c1 at hF
 refine Ad<|Ag z z<|Ab<|Ad<|Af z z<|Af z z<|be hF fun x1 hr1 hF=>ci Tryz.call105 z z (c_Slices_IndexFunc_Lint_int_M_IsSchema_c1 a1 u1 (g1.now hC0.keep) x1 hr1) fun w1 hB1=>have hC1:=hC0.grow hB1;C7 z z z<|Ag z z<|Ab<|AL<|?_
 obtain rfl:=Aa hF
 exact AE z z<|⟨_,z,Bh hC1 _⟩
theorem c_M_IsSchema {w0:World} (a1:(List Int)) (u1:Value) (g1:RO [] w0 u1 a1) (rr:Bool) (hF:M.IsSchema a1=some rr) :
 Calls Tryz.prog 80 [u1].toArray w0 fun e w'=>∃v,e=.returned v∧Res w0 rr v w':=by
 refine A4 Tryz.func80 z z ?_
 have hC0:=AD w0
 unfold M.IsSchema at hF
 refine Ad<|Ag z z<|Ab<|be hF fun r1 hr1 hF=>BP (fun l w=>∃x1:Bool,x1=r1∧l=[(2,(.bool x1))]∧Below w0.heap.size w0 w∧Ctx [] w0 w []) ?_ ?_
 ·refine Bt<|Af z z<|Bo Ap g1 z z<|be hr1 fun x2 hr2 hr1=>cb BR z z (c_M_within (List.length a1:Int) 1 3 x2 hr2) fun w2 hB2=>have hC2:=hC0.grow hB2;Af z z<|B3 (fun hc1=>?_) (fun hc1=>?_)
  ·replace hr1:=AF hr1 hc1
   refine Aj z z<|Af z z<|be hr1 fun x3 hr3 hr1=>Aj z z<|cb Tryz.call93 z z (c_Slices_ContainsFunc_Lint_int_M_IsSchema_c1 a1 u1 (g1.now hC2.keep) x3 hr3) fun w3 hB3=>have hC3:=hC2.grow hB3;Aj z z<|B2 z z<|AX z z z<|Ag z z<|Ab<|?_
   obtain rfl:=Aa hr1
   exact Ay (l':=[(2,(.bool (!x3)))]) ⟨z,Am⟩<|⟨(!x3),z,z,((Ao hB2).then hB3).below,hC3⟩
  replace hr1:=AG hr1 hc1
  refine gs z z z z<|gs z z z z<|gs z z z z<|AH z z z<|Ag z z<|Ab<|?_
  obtain rfl:=Aa hr1
  exact Ay (l':=[(2,(.bool false))]) ⟨z,Am⟩<|⟨false,z,z,(Ao hB2).below,hC2⟩
 rintro _ w1 ⟨x1,rfl,rfl,hB1,hC1⟩
 try dsimp only at hF
 refine AL ?_
 obtain rfl:=Aa hF
 exact AE z z<|⟨_,z,Bh hC1 _⟩
theorem c_M_hasRel {w0:World} (a1:(List Int)) (u1:Value) (g1:RO [] w0 u1 a1) (a2:Int) (rr:Bool) (hF:M.hasRel a1 a2=some rr) :
 Calls Tryz.prog 70 [u1,(I a2)].toArray w0 fun e w'=>∃v,e=.returned v∧Res w0 rr v w':=by
 refine A4 Tryz.func70 z z ?_
 have hC0:=AD w0
 unfold M.hasRel at hF
 refine Ad<|Ag z z<|Ab<|be hF fun r1 hr1 hF=>BP (fun l w=>∃x1:Bool,x1=r1∧l=[(4,(.bool x1))]∧Below w0.heap.size w0 w∧Ctx [] w0 w []) ?_ ?_
 ·refine Bt<|Af z z<|be hr1 fun x2 hr2 hr1=>cb Tryz.call80 z z (c_M_IsSchema a1 u1 (g1.now hC0.keep) x2 hr2) fun w2 hB2=>have hC2:=hC0.grow hB2;Af z z<|B3 (fun hc1=>?_) (fun hc1=>?_)
  ·replace hr1:=AF hr1 hc1
   refine Aj z z<|Af z z<|Aj z z<|Af z z<|Aj z z<|Bo Ap g1 z z<|Aj z z<|Cb z z z<|be hr1 fun x3 hr3 hr1=>Aj z z<|cb BR z z (c_M_within a2 0 (w64 ((List.length a1:Int) - 1)) x3 hr3) fun w3 hB3=>have hC3:=hC2.grow hB3;AX z z z<|Ag z z<|Ab<|?_
   obtain rfl:=Aa hr1
   exact Ay (l':=[(4,(.bool x3))]) ⟨z,Am⟩<|⟨x3,z,z,((Ao hB2).then hB3).below,hC3⟩
  replace hr1:=AG hr1 hc1
  refine gs z z z z<|gs z z z z<|gs z z z z<|gs z z z z<|gs z z z z<|AH z z z<|Ag z z<|Ab<|?_
  obtain rfl:=Aa hr1
  exact Ay (l':=[(4,(.bool false))]) ⟨z,Am⟩<|⟨false,z,z,(Ao hB2).below,hC2⟩
 rintro _ w1 ⟨x1,rfl,rfl,hB1,hC1⟩
 try dsimp only at hF
 refine AL ?_
 obtain rfl:=Aa hF
 exact AE z z<|⟨_,z,Bh hC1 _⟩
theorem c_M_isValue {w0:World} (a1:Int) (rr:Bool) (hF:M.isValue a1=some rr) :
 Calls Tryz.prog 95 [(I a1)].toArray w0 fun e w'=>∃v,e=.returned v∧Res w0 rr v w':=by
 refine A4 Tryz.func95 z z ?_
 have hC0:=AD w0
 unfold M.isValue at hF
 refine Ad<|Ag z z<|Ab<|Ad<|Af z z<|be hF fun x1 hr1 hF=>cb BR z z (c_M_within a1 0 9 x1 hr1) fun w1 hB1=>have hC1:=hC0.grow hB1;Ag z z<|Ab<|AL<|?_
 obtain rfl:=Aa hF
 exact AE z z<|⟨_,z,Bh hC1 _⟩
theorem c_M_areValues_c1 {w0:World} (a1:Int) (rr:Bool) (hF:M.areValues_c1 a1=some rr) :
 Calls Tryz.prog 94 [(I a1)].toArray w0 fun e w'=>∃v,e=.returned v∧Res w0 rr v w':=by
 refine A4 Tryz.func94 z z ?_
 have hC0:=AD w0
 unfold M.areValues_c1 at hF
 refine Ad<|Ag z z<|Ab<|Ad<|Af z z<|be hF fun x1 hr1 hF=>cb Tryz.call95 z z (c_M_isValue a1 x1 hr1) fun w1 hB1=>have hC1:=hC0.grow hB1;B2 z z<|Ag z z<|Ab<|AL<|?_
 obtain rfl:=Aa hF
 exact AE z z<|⟨_,z,Bh hC1 _⟩
theorem c_Slices_IndexFunc_Lint_int_M_areValues_c1 {w0:World} (a1:(List Int)) (u1:Value) (g1:RO [] w0 u1 a1) (rr:Int) (hF:Slices.IndexFunc_Lint_int_M_areValues_c1 a1=some rr) :
 Calls Tryz.prog 105 [u1,(.func (.func 94) #[] #[])].toArray w0 fun e w'=>∃v,e=.returned v∧Res w0 rr v w':=by
 refine A4 Tryz.func105 z z ?_
 have hC0:=AD w0
 unfold Slices.IndexFunc_Lint_int_M_areValues_c1 at hF
 refine Ad<|Ag z z<|Ab<|AC<|Ad<|Af z z<|Bo Ap g1 z z<|Af z z<|Ab<|be hF fun r1 hr1 hF=>Bv (fun l w=>.inl ()=r1∧l=[]∧Below w0.heap.size w0 w∧Ctx [] w0 w []) ?_ ?_
 ·refine Bb<|wS (l':=[(0,u1),(1,(.func (.func 94) #[] #[])),(7,(I (List.length a1:Int))),(8,(I 0))]) ⟨z,z,z,z,Am⟩<|BC (fun k l w=>∃x1:Int,l=[(0,u1),(1,(.func (.func 94) #[] #[])),(7,(I (List.length a1:Int))),(8,(I x1))]∧Below w0.heap.size w0 w∧Ctx [] w0 w []∧Slices.IndexFunc_Lint_int_M_areValues_c1_l1 a1 k x1=some r1) FUEL ⟨0,z,(Aq _ _),hC0,hr1⟩<|?_
  clear hr1
  rintro k1 _ w1 ⟨x1,rfl,hB1,hC1,hL1⟩
  cases k1 with
  | zero=>rw [Slices.IndexFunc_Lint_int_M_areValues_c1_l1] at hL1; cases hL1
  | succ k1 =>
   rw [Slices.IndexFunc_Lint_int_M_areValues_c1_l1] at hL1
   refine Ad<|B6 z z z<|Ab<|AC<|AN z (fun hc1=>?_) (fun hc1=>?_)
   ·replace hL1:=AF hL1 hc1
    refine AR<|Ax<|AC<|Bb<|Ad<|Af z z<|Ag z z<|Ab<|Ad<|Af z z<|Af z z<|Af z z<|be hL1 fun x2 hx1 hL1=>Bc Ap ty3 g1 hx1 z z z fun b1 o1 h1=>Bf ty3 h1 hC1.keep z z fun v1 h2=>?_
    obtain rfl:=BG h2
    refine be hL1 fun x3 hr2 hL1=>Cu (cap:=[]) Tryz.call94 z z z (c_M_areValues_c1 x2 x3 hr2) fun _ w2 hv1=>?_
    obtain ⟨rfl,hB2⟩:=Cv hv1
    have hC2:=hC1.grow hB2
    refine Ab<|AN z (fun hc2=>?_) (fun hc2=>?_)
    ·replace hL1:=AF hL1 hc2
     refine Ad<|Af z z<|Ag z z<|Ab<|AL<|Bz<|A7<|A7<|Bz<|A7<|A7<|?_
     obtain rfl:=Aa hL1
     dsimp only at hF
     obtain rfl:=Aa hF
     exact AE z z<|⟨_,z,B7 hC2 _⟩
    replace hL1:=AG hL1 hc2
    exact AR<|Bi<|Ax<|Bt<|By z z z<|Af z z<|Ab<|Ay (l':=[(0,u1),(1,(.func (.func 94) #[] #[])),(7,(I (List.length a1:Int))),(8,(I (w64 (x1+1))))]) ⟨z,z,z,z,Am⟩<|⟨k1,AS _,w64 (x1+1),z,((Ao hB1).then hB2).below,hC2,hL1⟩
   replace hL1:=AG hL1 hc1
   refine BD (AY (AY (B1 ?_)))
   obtain rfl:=Aa hL1
   exact Ay (l':=[]) Am<|⟨z,z,(Ao hB1).below,hC1⟩
 rintro l2 _ w3 hs2 ⟨rfl,rfl,hB3,hC3⟩
 try dsimp only at hF
 refine Bj hs2 ?_
 clear hs2
 refine Ad<|Ag z z<|Ab<|AL<|?_
 obtain rfl:=Aa hF
 exact AE z z<|⟨_,z,B7 hC3 _⟩
theorem c_Slices_ContainsFunc_Lint_int_M_areValues_c1 {w0:World} (a1:(List Int)) (u1:Value) (g1:RO [] w0 u1 a1) (rr:Bool) (hF:Slices.ContainsFunc_Lint_int_M_areValues_c1 a1=some rr) :
 Calls Tryz.prog 93 [u1,(.func (.func 94) #[] #[])].toArray w0 fun e w'=>∃v,e=.returned v∧Res w0 rr v w':=by
 refine A4 Tryz.func93 z z ?_
 have hC0:=AD w0
 unfold Slices.ContainsFunc_Lint_int_M_areValues_c1 at hF
 refine Ad<|Ag z z<|Ab<|Ad<|Af z z<|Af z z<|be hF fun x1 hr1 hF=>ci Tryz.call105 z z (c_Slices_IndexFunc_Lint_int_M_areValues_c1 a1 u1 (g1.now hC0.keep) x1 hr1) fun w1 hB1=>have hC1:=hC0.grow hB1;C7 z z z<|Ag z z<|Ab<|AL<|?_
 obtain rfl:=Aa hF
 exact AE z z<|⟨_,z,Bh hC1 _⟩
theorem c_M_areValues {w0:World} (a1:(List Int)) (u1:Value) (g1:RO [] w0 u1 a1) (rr:Bool) (hF:M.areValues a1=some rr) :
 Calls Tryz.prog 71 [u1].toArray w0 fun e w'=>∃v,e=.returned v∧Res w0 rr v w':=by
 refine A4 Tryz.func71 z z ?_
 have hC0:=AD w0
 unfold M.areValues at hF
 refine Ad<|Ag z z<|Ab<|Ad<|Af z z<|be hF fun x1 hr1 hF=>cb Tryz.call93 z z (c_Slices_ContainsFunc_Lint_int_M_areValues_c1 a1 u1 (g1.now hC0.keep) x1 hr1) fun w1 hB1=>have hC1:=hC0.grow hB1;B2 z z<|Ag z z<|Ab<|AL<|?_
 obtain rfl:=Aa hF
 exact AE z z<|⟨_,z,Bh hC1 _⟩
theorem c_M_IsFact {w0:World} (a1:(List Int)) (u1:Value) (g1:RO [] w0 u1 a1) (a2:(Int × (List Int))) (u2:Value) (g2:RO [] w0 u2 a2.2) (rr:Bool) (hF:M.IsFact a1 a2=some rr) :
 Calls Tryz.prog 34 [u1,(.agg #[(I a2.1),u2])].toArray w0 fun e w'=>∃v,e=.returned v∧Res w0 rr v w':=by
 refine A4 Tryz.func34 z z ?_
 have hC0:=AD w0
 unfold M.IsFact at hF
 refine Ad<|B0 (cs:=[(I a2.1),u2]) hC0 z z z fun b1 w1 hC1 hB1 hN1=>Ag z z<|Ab<|be hF fun r1 hr1 hF=>BP (fun l w=>∃x1:Bool,x1=r1∧l=[(4,(.bool x1))]∧Below w1.heap.size w1 w∧Ctx [] w0 w []) ?_ ?_
 ·refine W_drawn 21 z hmix fun w3 hB3=>have hC3:=hC1.grow hB3;tm 0 z z z<|tf 1 A3 Az z z z z z<|oe 2 z<|At hC3 0 z z AA z z<|Ab<|be hr1 fun x2 hr2 hr1=>oe 3 z<|cb Tryz.call70 z z (c_M_hasRel a1 u1 (g1.now hC3.keep) a2.1 x2 hr2) fun w4 hB4=>have hC4:=hC3.grow hB4;Ab<|tm 4 z z z<|BE (fun hc1=>?_) (fun hc1=>?_)
  ·replace hr1:=AF hr1 hc1
   refine tg 5 z z z z (B5 A3 z z (fun w=>⟨_,A2 w⟩) z)<|Aj z z<|fd A3 A2 z z z z<|Ab<|tn 8 z z z z z<|tg 9 z z z z (B5 A3 z z (fun w=>⟨_,Az w⟩) z)<|Aj z z<|fd A3 Az z z z z<|Ab<|be hr1 fun x3 hx1 hr1=>wAS (l':=[(0,u1),(1,(.agg #[(I a2.1),u2])),(3,(ptr b1 0)),(4,(.bool false)),(5,u1),(6,(ptr b1 0)),(7,(I a2.1)),(8,(.bool x2)),(9,(.bool true)),(10,(ptr b1 1)),(13,u1),(14,(ptr b1 0))]) ⟨z,z,z,z,z,z,z,z,z,z,z,z,Am⟩<|Bm [⟨6,[],fun vs=>AU u2,[]⟩,⟨7,[],fun vs=>AU (I (List.length a2.2:Int)),[]⟩,⟨10,[],fun vs=>AU (I a2.1),[]⟩,⟨11,[],fun vs=>Ce [] w0 x3,[]⟩,⟨12,[],fun vs=>AU (I x3),[]⟩] [[],[6],[],[10],[11]] 8 z (by kernel_rfl) (by kernel_rfl) z ?_ ?_
   ·refine An z ?_ ?_
    ·intro w5 hB5
     refine Av<|⟨_,z,?_⟩
     exact Aj z z<|At (hC4.grow hB5) 0 z z AT z z<|Ab<|A0 (Aq _ _) z z ⟨z,z⟩
    refine An z ?_ ?_
    ·intro w5 hB5
     refine A6 z z z ?_
     rintro _ _ ⟨rfl,rfl⟩ _
     refine Av<|⟨_,z,?_⟩
     exact Aj z z<|Bo Ap g2 z z<|Ab<|A0 (Aq _ _) z z ⟨z,z⟩
    refine An z ?_ ?_
    ·intro w5 hB5
     refine Av<|⟨_,z,?_⟩
     exact Aj z z<|At (hC4.grow hB5) 0 z z AA z z<|Ab<|A0 (Aq _ _) z z ⟨z,z⟩
    refine An z ?_ ?_
    ·intro w5 hB5
     refine A6 z z z ?_
     rintro _ _ ⟨rfl,rfl⟩ _
     refine Av<|⟨_,z,?_⟩
     exact Aj z z<|Bc Ap ty3 g1 hx1 z z z fun b2 o1 h1=>Ab<|A0 (Aq _ _) z z ⟨z,_,_,z,h1⟩
    refine An z ?_ ?_
    ·intro w5 hB5
     refine A6 z z z ?_
     rintro _ _ ⟨rfl,b2,o1,rfl,h1⟩ _
     refine Av<|⟨_,z,?_⟩
     refine Aj z z<|Bf ty3 h1 (hC4.keep.then hB5) z z fun v1 h2=>?_
     obtain rfl:=BG h2
     exact Ab<|A0 (Aq _ _) z z ⟨z,z⟩
    exact Bd
   intro w6 hB6
   refine Au z z z ?_
   rintro _ _ ⟨rfl,rfl⟩
   refine Au z z z ?_
   rintro _ _ ⟨rfl,rfl⟩
   refine Au z z z ?_
   rintro _ _ ⟨rfl,rfl⟩
   refine Au z z z ?_
   rintro _ _ ⟨rfl,b2,o1,rfl,h1⟩
   refine Au z z z ?_
   rintro _ _ ⟨rfl,rfl⟩
   refine Bn fun hn1 hb1=>have hC5:=hC4.grow hB6;tg 13 z z z z (fl_eql z z)<|Aj z z<|BO z z z<|Ab<|tp 14 z z z z<|tm 15 z z z<|BE (fun hc2=>?_) (fun hc2=>?_)
   ·replace hr1:=AF hr1 hc2
    refine tg 16 z z z z (B5 A3 z z (fun w=>⟨_,A2 w⟩) z)<|Aj z z<|fd A3 A2 z z z z<|Ab<|oe 17 z<|Aj z z<|At hC5 0 z z AT z z<|Ab<|be hr1 fun x4 hr3 hr1=>oe 18 z<|Aj z z<|cb Tryz.call71 z z (c_M_areValues a2.2 u2 (g2.now hC5.keep) x4 hr3) fun w7 hB7=>have hC6:=hC5.grow hB7;Ab<|tp 19 z z z z<|ta 20 z z z<|dn<|?_
    obtain rfl:=Aa hr1
    have hC7:=hC6.h0
    exact Ay (l':=[(4,(.bool x4))]) ⟨z,Am⟩<|⟨x4,z,z,((((Ao hB3).then hB4).then hB6).then hB7).below,hC7⟩
   replace hr1:=AG hr1 hc2
   refine sk 16 z z z z z<|sk 17 z z z z z<|sk 18 z z z z z<|tq 19 z z z z<|ta 20 z z z<|dn<|?_
   obtain rfl:=Aa hr1
   have hC8:=hC5.h0
   exact Ay (l':=[(4,(.bool false))]) ⟨z,Am⟩<|⟨false,z,z,(((Ao hB3).then hB4).then hB6).below,hC8⟩
  replace hr1:=AG hr1 hc1
  refine sk 5 z z z z z<|sk 6 z z z z z<|sk 7 z z z z z<|sk 8 z z z z z<|sk 9 z z z z z<|sk 10 z z z z z<|sk 11 z z z z z<|sk 12 z z z z z<|sk 13 z z z z z<|tq 14 z z z z<|tm 15 z z z<|sk 16 z z z z z<|sk 17 z z z z z<|sk 18 z z z z z<|tq 19 z z z z<|ta 20 z z z<|dn<|?_
  obtain rfl:=Aa hr1
  have hC9:=hC4.h0
  exact Ay (l':=[(4,(.bool false))]) ⟨z,Am⟩<|⟨false,z,z,((Ao hB3).then hB4).below,hC9⟩
 rintro _ w2 ⟨x1,rfl,rfl,hB2,hC2⟩
 try dsimp only at hF
 refine AL ?_
 obtain rfl:=Aa hF
 exact AE z z<|⟨_,z,Bh hC2 _⟩
theorem c_Cmp_Or_int {w0:World} (a1:(List Int)) (u1:Value) (g1:RO [] w0 u1 a1) (rr:Int) (hF:Cmp.Or_int a1=some rr) :
 Calls Tryz.prog 76 [u1].toArray w0 fun e w'=>∃v,e=.returned v∧Res w0 rr v w':=by
 refine A4 Tryz.func76 z z ?_
 have hC0:=AD w0
 unfold Cmp.Or_int at hF
 refine Ad<|Ag z z<|Ab<|Ad<|Ag z z<|Ab<|AC<|Ad<|Af z z<|Bo Ap g1 z z<|Af z z<|Ab<|be hF fun r1 hr1 hF=>Bv (fun l w=>.inl ()=r1∧l=[(3,(I 0))]∧Below w0.heap.size w0 w∧Ctx [] w0 w []) ?_ ?_
 ·refine Bb<|wS (l':=[(3,(I 0)),(6,u1),(7,(I (List.length a1:Int))),(8,(I 0))]) ⟨z,z,z,z,Am⟩<|BC (fun k l w=>∃x1:Int,l=[(3,(I 0)),(6,u1),(7,(I (List.length a1:Int))),(8,(I x1))]∧Below w0.heap.size w0 w∧Ctx [] w0 w []∧Cmp.Or_int_l1 a1 k x1=some r1) FUEL ⟨0,z,(Aq _ _),hC0,hr1⟩<|?_
  clear hr1
  rintro k1 _ w1 ⟨x1,rfl,hB1,hC1,hL1⟩
  cases k1 with
  | zero=>rw [Cmp.Or_int_l1] at hL1; cases hL1
  | succ k1 =>
   rw [Cmp.Or_int_l1] at hL1
   refine Ad<|B6 z z z<|Ab<|AC<|AN z (fun hc1=>?_) (fun hc1=>?_)
   ·replace hL1:=AF hL1 hc1
    refine AR<|Ax<|AC<|Bb<|Ad<|be hL1 fun x2 hx1 hL1=>Bc Ap ty3 g1 hx1 z z z fun b1 o1 h1=>Bf ty3 h1 hC1.keep z z fun v1 h2=>?_
    obtain rfl:=BG h2
    refine Ag z z<|Ab<|Ad<|Af z z<|Af z z<|Cp z z z<|Ab<|AN z (fun hc2=>?_) (fun hc2=>?_)
    ·replace hL1:=AF hL1 hc2
     refine Ad<|Af z z<|Ag z z<|Ab<|AL<|Bz<|A7<|A7<|Bz<|A7<|A7<|?_
     obtain rfl:=Aa hL1
     dsimp only at hF
     obtain rfl:=Aa hF
     exact AE z z<|⟨_,z,B7 hC1 _⟩
    replace hL1:=AG hL1 hc2
    exact AR<|Bi<|Ax<|Bt<|By z z z<|Af z z<|Ab<|Ay (l':=[(3,(I 0)),(6,u1),(7,(I (List.length a1:Int))),(8,(I (w64 (x1+1))))]) ⟨z,z,z,z,Am⟩<|⟨k1,AS _,w64 (x1+1),z,(Ao hB1).below,hC1,hL1⟩
   replace hL1:=AG hL1 hc1
   refine BD (AY (AY (B1 ?_)))
   obtain rfl:=Aa hL1
   exact Ay (l':=[(3,(I 0))]) ⟨z,Am⟩<|⟨z,z,(Ao hB1).below,hC1⟩
 rintro l2 _ w2 hs2 ⟨rfl,rfl,hB2,hC2⟩
 try dsimp only at hF
 refine Bj hs2 ?_
 clear hs2
 refine Ad<|Af z z<|Ag z z<|Ab<|AL<|?_
 obtain rfl:=Aa hF
 exact AE z z<|⟨_,z,B7 hC2 _⟩
theorem c_Cmp_isNaN_int {w0:World} (a1:Int) (rr:Bool) (hF:Cmp.isNaN_int a1=some rr) :
 Calls Tryz.prog 98 [(I a1)].toArray w0 fun e w'=>∃v,e=.returned v∧Res w0 rr v w':=by
 refine A4 Tryz.func98 z z ?_
 have hC0:=AD w0
 unfold Cmp.isNaN_int at hF
 refine Ad<|Ag z z<|Ab<|Ad<|Af z z<|Af z z<|Cp z z z<|Ag z z<|Ab<|AL<|?_
 obtain rfl:=Aa hF
 exact AE z z<|⟨_,z,Bh hC0 _⟩
theorem c_Cmp_Compare_int {w0:World} (a1:Int) (a2:Int) (rr:Int) (hF:Cmp.Compare_int a1 a2=some rr) :
 Calls Tryz.prog 77 [(I a1),(I a2)].toArray w0 fun e w'=>∃v,e=.returned v∧Res w0 rr v w':=by
 refine A4 Tryz.func77 z z ?_
 have hC0:=AD w0
 unfold Cmp.Compare_int at hF
 refine Ad<|Ag z z<|Ab<|Ad<|Af z z<|be hF fun x1 hr1 hF=>cb Tryz.call98 z z (c_Cmp_isNaN_int a1 x1 hr1) fun w1 hB1=>have hC1:=hC0.grow hB1;Ag z z<|Ab<|Ad<|Af z z<|be hF fun x2 hr2 hF=>cb Tryz.call98 z z (c_Cmp_isNaN_int a2 x2 hr2) fun w2 hB2=>have hC2:=hC1.grow hB2;Ag z z<|Ab<|AC<|Ad<|Af z z<|Ab<|AN z (fun hc1=>?_) (fun hc1=>?_)
 ·replace hF:=AF hF hc1
  refine AC<|Ad<|Af z z<|Ab<|AN z (fun hc2=>?_) (fun hc2=>?_)
  ·replace hF:=AF hF hc2
   refine Ad<|Ag z z<|Ab<|AL<|A7<|A7<|?_
   obtain rfl:=Aa hF
   exact AE z z<|⟨_,z,B7 hC2 _⟩
  replace hF:=AG hF hc2
  refine AR<|Ax<|Ad<|Ag z z<|Ab<|AL<|A7<|?_
  obtain rfl:=Aa hF
  exact AE z z<|⟨_,z,B7 hC2 _⟩
 replace hF:=AG hF hc1
 refine AR<|Ax<|AC<|Ad<|Af z z<|Ab<|AN z (fun hc3=>?_) (fun hc3=>?_)
 ·replace hF:=AF hF hc3
  refine Ad<|Ag z z<|Ab<|AL<|A7<|?_
  obtain rfl:=Aa hF
  exact AE z z<|⟨_,z,B7 hC2 _⟩
 replace hF:=AG hF hc3
 refine AR<|Ax<|AC<|Ad<|Af z z<|Af z z<|B6 z z z<|Ab<|AN z (fun hc4=>?_) (fun hc4=>?_)
 ·replace hF:=AF hF hc4
  refine Ad<|Ag z z<|Ab<|AL<|A7<|?_
  obtain rfl:=Aa hF
  exact AE z z<|⟨_,z,B7 hC2 _⟩
 replace hF:=AG hF hc4
 refine AR<|Ax<|AC<|Ad<|Af z z<|Af z z<|Cs z z z<|Ab<|AN z (fun hc5=>?_) (fun hc5=>?_)
 ·replace hF:=AF hF hc5
  refine Ad<|Ag z z<|Ab<|AL<|A7<|?_
  obtain rfl:=Aa hF
  exact AE z z<|⟨_,z,B7 hC2 _⟩
 replace hF:=AG hF hc5
 refine AR<|Ax<|Ad<|Ag z z<|Ab<|AL<|?_
 obtain rfl:=Aa hF
 exact AE z z<|⟨_,z,B7 hC2 _⟩
theorem c_Slices_Compare_Lint_int {w0:World} (a1:(List Int)) (u1:Value) (g1:RO [] w0 u1 a1) (a2:(List Int)) (u2:Value) (g2:RO [] w0 u2 a2) (rr:Int) (hF:Slices.Compare_Lint_int a1 a2=some rr) :
 Calls Tryz.prog 78 [u1,u2].toArray w0 fun e w'=>∃v,e=.returned v∧Res w0 rr v w':=by
 refine A4 Tryz.func78 z z ?_
 have hC0:=AD w0
 unfold Slices.Compare_Lint_int at hF
 refine Ad<|Ag z z<|Ab<|AC<|Ad<|Af z z<|Bo Ap g1 z z<|Af z z<|Ab<|be hF fun r1 hr1 hF=>Bv (fun l w=>.inl ()=r1∧l=[(0,u1),(1,u2)]∧Below w0.heap.size w0 w∧Ctx [] w0 w []) ?_ ?_
 ·refine Bb<|wS (l':=[(0,u1),(1,u2),(9,u1),(10,(I (List.length a1:Int))),(11,(I 0))]) ⟨z,z,z,z,z,Am⟩<|BC (fun k l w=>∃x1:Int,l=[(0,u1),(1,u2),(9,u1),(10,(I (List.length a1:Int))),(11,(I x1))]∧Below w0.heap.size w0 w∧Ctx [] w0 w []∧Slices.Compare_Lint_int_l1 a1 a2 k x1=some r1) FUEL ⟨0,z,(Aq _ _),hC0,hr1⟩<|?_
  clear hr1
  rintro k1 _ w1 ⟨x1,rfl,hB1,hC1,hL1⟩
  cases k1 with
  | zero=>rw [Slices.Compare_Lint_int_l1] at hL1; cases hL1
  | succ k1 =>
   rw [Slices.Compare_Lint_int_l1] at hL1
   refine Ad<|B6 z z z<|Ab<|AC<|AN z (fun hc1=>?_) (fun hc1=>?_)
   ·replace hL1:=AF hL1 hc1
    refine AR<|Ax<|AC<|Bb<|Ad<|Af z z<|be hL1 fun x2 hx1 hL1=>Bc Ap ty3 g1 hx1 z z z fun b1 o1 h1=>Bf ty3 h1 hC1.keep z z fun v1 h2=>?_
    obtain rfl:=BG h2
    refine Ag z z<|Ag z z<|Ab<|AC<|Ad<|Af z z<|Af z z<|Bo Ap g2 z z<|C7 z z z<|Ab<|AN z (fun hc2=>?_) (fun hc2=>?_)
    ·replace hL1:=AF hL1 hc2
     refine Ad<|Ag z z<|Ab<|AL<|A7<|Bz<|A7<|A7<|Bz<|A7<|A7<|?_
     obtain rfl:=Aa hL1
     dsimp only at hF
     obtain rfl:=Aa hF
     exact AE z z<|⟨_,z,B7 hC1 _⟩
    replace hL1:=AG hL1 hc2
    refine AR<|Ax<|Ad<|Af z z<|Af z z<|be hL1 fun x3 hx2 hL1=>Bc Ap ty3 g2 hx2 z z z fun b2 o2 h3=>Bf ty3 h3 hC1.keep z z fun v2 h4=>?_
    obtain rfl:=BG h4
    refine Ag z z<|Ab<|Ad<|Af z z<|Af z z<|be hL1 fun x4 hr2 hL1=>ci Tryz.call77 z z (c_Cmp_Compare_int x2 x3 x4 hr2) fun w2 hB2=>have hC2:=hC1.grow hB2;Ag z z<|Ab<|Ad<|Af z z<|Cp z z z<|Ab<|AN z (fun hc3=>?_) (fun hc3=>?_)
    ·replace hL1:=AF hL1 hc3
     refine Ad<|Af z z<|Ag z z<|Ab<|AL<|Bz<|A7<|A7<|Bz<|A7<|A7<|?_
     obtain rfl:=Aa hL1
     dsimp only at hF
     obtain rfl:=Aa hF
     exact AE z z<|⟨_,z,B7 hC2 _⟩
    replace hL1:=AG hL1 hc3
    exact AR<|Bi<|Ax<|Bt<|By z z z<|Af z z<|Ab<|Ay (l':=[(0,u1),(1,u2),(9,u1),(10,(I (List.length a1:Int))),(11,(I (w64 (x1+1))))]) ⟨z,z,z,z,z,Am⟩<|⟨k1,AS _,w64 (x1+1),z,((Ao hB1).then hB2).below,hC2,hL1⟩
   replace hL1:=AG hL1 hc1
   refine BD (AY (AY (B1 ?_)))
   obtain rfl:=Aa hL1
   exact Ay (l':=[(0,u1),(1,u2)]) ⟨z,z,Am⟩<|⟨z,z,(Ao hB1).below,hC1⟩
 rintro l2 _ w3 hs2 ⟨rfl,rfl,hB3,hC3⟩
 try dsimp only at hF
 refine Bj hs2 ?_
 clear hs2
 refine AC<|Ad<|Af z z<|Bo Ap g1 z z<|Af z z<|Bo Ap g2 z z<|B6 z z z<|Ab<|AN z (fun hc4=>?_) (fun hc4=>?_)
 ·replace hF:=AF hF hc4
  refine Ad<|Ag z z<|Ab<|AL<|A7<|?_
  obtain rfl:=Aa hF
  exact AE z z<|⟨_,z,B7 hC3 _⟩
 replace hF:=AG hF hc4
 refine AR<|Ax<|Ad<|Ag z z<|Ab<|AL<|?_
 obtain rfl:=Aa hF
 exact AE z z<|⟨_,z,B7 hC3 _⟩
theorem c_M_CompareFacts {w0:World} (a1:(Int × (List Int))) (u1:Value) (g1:RO [] w0 u1 a1.2) (a2:(Int × (List Int))) (u2:Value) (g2:RO [] w0 u2 a2.2) (rr:Int) (hF:M.CompareFacts a1 a2=some rr) :
 Calls Tryz.prog 38 [(.agg #[(I a1.1),u1]),(.agg #[(I a2.1),u2])].toArray w0 fun e w'=>∃v,e=.returned v∧Res w0 rr v w':=by
 refine A4 Tryz.func38 z z ?_
 have hC0:=AD w0
 unfold M.CompareFacts at hF
 refine Ad<|B0 (cs:=[(I a1.1),u1]) hC0 z z z fun b1 w1 hC1 hB1 hN1=>B0 (cs:=[(I a2.1),u2]) hC1 z z z fun b2 w2 hC2 hB2 hN2=>Ag z z<|Ab<|AC<|W_drawn 13 z hmix fun w3 hB3=>have hC3:=hC2.grow hB3;tf 0 A3 Az z z z z z<|tf 2 A3 Az z z z z z<|tf 5 A3 A2 z z z z z<|tf 7 A3 A2 z z z z z<|be hF fun x1 hr1 hF=>wAS (l':=[(0,(.agg #[(I a1.1),u1])),(1,(.agg #[(I a2.1),u2])),(2,(ptr b1 0)),(3,(ptr b2 0)),(4,(I 0)),(5,(ptr b1 0)),(7,(ptr b2 0)),(10,(ptr b1 1)),(12,(ptr b2 1))]) ⟨z,z,z,z,z,z,z,z,z,Am⟩<|Bm [⟨1,[],fun vs=>AU (I a1.1),[]⟩,⟨3,[],fun vs=>AU (I a2.1),[]⟩,⟨4,[],fun vs=>AU (I x1),[]⟩,⟨6,[],fun vs=>AU u1,[]⟩,⟨8,[],fun vs=>AU u2,[]⟩] [[],[],[1,3],[],[]] 4 z (by kernel_rfl) (by kernel_rfl) z ?_ ?_
 ·refine An z ?_ ?_
  ·intro w5 hB5
   refine Av<|⟨_,z,?_⟩
   exact At (hC3.grow hB5) 1 z z AA z z<|Ab<|A0 (Aq _ _) z z ⟨z,z⟩
  refine An z ?_ ?_
  ·intro w5 hB5
   refine Av<|⟨_,z,?_⟩
   exact At (hC3.grow hB5) 0 z z AA z z<|Ab<|A0 (Aq _ _) z z ⟨z,z⟩
  refine An z ?_ ?_
  ·intro w5 hB5
   refine A6 z z z ?_
   rintro _ _ ⟨rfl,rfl⟩ _
   refine A6 z z z ?_
   rintro _ _ ⟨rfl,rfl⟩ _
   refine Av<|⟨_,z,?_⟩
   exact ci Tryz.call77 z z (c_Cmp_Compare_int a1.1 a2.1 x1 hr1) fun w4 hB4=>Ab<|A0 hB4 z z ⟨z,z⟩
  refine An z ?_ ?_
  ·intro w5 hB5
   refine Av<|⟨_,z,?_⟩
   exact At (hC3.grow hB5) 1 z z AT z z<|Ab<|A0 (Aq _ _) z z ⟨z,z⟩
  refine An z ?_ ?_
  ·intro w5 hB5
   refine Av<|⟨_,z,?_⟩
   exact At (hC3.grow hB5) 0 z z AT z z<|Ab<|A0 (Aq _ _) z z ⟨z,z⟩
  exact Bd
 intro w6 hB6
 refine Au z z z ?_
 rintro _ _ ⟨rfl,rfl⟩
 refine Au z z z ?_
 rintro _ _ ⟨rfl,rfl⟩
 refine Au z z z ?_
 rintro _ _ ⟨rfl,rfl⟩
 refine Au z z z ?_
 rintro _ _ ⟨rfl,rfl⟩
 refine Au z z z ?_
 rintro _ _ ⟨rfl,rfl⟩
 refine Bn fun hn1 hb1=>have hC4:=hC3.grow hB6;be hF fun x2 hr2 hF=>oe 9 z<|ci Tryz.call78 z z (c_Slices_Compare_Lint_int a1.2 u1 (g1.now hC4.keep) a2.2 u2 (g2.now hC4.keep) x2 hr2) fun w7 hB7=>have hC5:=hC4.grow hB7;Ab<|oe 10 z<|AK (vs:=[(I x1),(I x2)]) hC5 Ap ty3 z z z z (fac z<|fac z<|fa0) z z fun b3 w9 hC6 hB8=>?_
 have hC7:=hC6.row0 (α:=Int)
 have hC8:=hC7.triv (Bp (x2))
 have hC9:=hC8.row1
 have hC10:=hC9.triv (Bp (x1))
 have hC11:=hC10.row1
 have hC12:=hC11.front 1 z
 dsimp only [List.eraseIdx,List.cons_append,List.nil_append,List.append_nil] at hC12
 have hC13:Ctx [] w0 w9 (Ae (.slice (some ⟨b3,0,none⟩) 2 2) ([x1,x2]:List Int)::[Ac b2 [(I a2.1),u2],Ac b1 [(I a1.1),u1]]):=hC12.rowOwn (by simp [maxLen])
 refine Ab<|be hF fun x3 hr3 hF=>oe 11 z<|ci Tryz.call76 z z (c_Cmp_Or_int ([x1,x2]) (.slice (some ⟨b3,0,none⟩) 2 2) ((hC13.ro 0 z).now (Be _ _)) x3 hr3) fun w10 hB9=>have hC14:=hC13.grow hB9;Ab<|ta 12 z z z<|dn<|Ax<|AL<|?_
 obtain rfl:=Aa hF
 exact AE z z<|⟨_,z,B7 hC14 _⟩
theorem c_M_AreFacts {w0:World} (a1:(List Int)) (u1:Value) (g1:RO [] w0 u1 a1) (a2:(List (Int × (List Int)))) (u2:Value) (g2:RO [] w0 u2 a2) (rr:Bool) (hF:M.AreFacts a1 a2=some rr) :
 Calls Tryz.prog 44 [u1,u2].toArray w0 fun e w'=>∃v,e=.returned v∧Res w0 rr v w':=by
 refine A4 Tryz.func44 z z ?_
 have hC0:=AD w0
 unfold M.AreFacts at hF
 refine Ad<|Ag z z<|Ab<|AC<|Ad<|Af z z<|Bo Ah g2 z z<|Af z z<|Ab<|be hF fun r1 hr1 hF=>Bv (fun l w=>.inl ()=r1∧l=[(0,u1),(1,u2)]∧Ctx [] w0 w []) ?_ ?_
 ·refine Bb<|wS (l':=[(0,u1),(1,u2),(7,u2),(8,(I (List.length a2:Int))),(9,(I 0))]) ⟨z,z,z,z,z,Am⟩<|BC (fun k l w=>∃x1:Int,l=[(0,u1),(1,u2),(7,u2),(8,(I (List.length a2:Int))),(9,(I x1))]∧Ctx [] w0 w []∧M.AreFacts_l1 a2 a1 k x1=some r1) FUEL ⟨0,z,hC0,hr1⟩<|?_
  clear hr1
  rintro k1 _ w1 ⟨x1,rfl,hC1,hL1⟩
  cases k1 with
  | zero=>rw [M.AreFacts_l1] at hL1; cases hL1
  | succ k1 =>
   rw [M.AreFacts_l1] at hL1
   refine Ad<|B6 z z z<|Ab<|AC<|AN z (fun hc1=>?_) (fun hc1=>?_)
   ·replace hL1:=AF hL1 hc1
    refine AR<|Ax<|AC<|Bb<|Ad<|Af z z<|be hL1 fun x2 hx1 hL1=>Bc Ah ty29 g2 hx1 z z z fun b1 o1 h1=>Bf ty29 h1 hC1.keep z z fun v1 h2=>?_
    obtain ⟨v2,rfl,h3⟩:=BJ h2
    refine AW hC1 zero29 z z fun b2 w2 hC2 hB2 hN1=>Ag z z<|Al (cs':=[(I x2.1),v2]) (new:=[(I x2.1),v2]) hC2 0 z z (fac z<|fac (AP h3)<|fa0) z AI z z fun w3 hC3 hKp1=>?_
    try dsimp only [List.set] at hC3
    have hk1:=Ak (Ao hB2) hN1 hKp1
    refine Ab<|be hL1 fun r2 hr2 hL1=>BP (fun l w=>∃x3:Bool,x3=r2∧l=[(0,u1),(1,u2),(7,u2),(8,(I (List.length a2:Int))),(9,(I x1)),(31,(.bool x3))]∧Below w3.heap.size w3 w∧Ctx [] w0 w []) ?_ ?_
    ·refine W_drawn 18 z hmix fun w5 hB4=>have hC5:=hC3.grow hB4;tm 0 z z z<|oe 1 z<|Ar [(I x2.1),v2] hC5 0 z z z Bu AI z z<|Ab<|be hr2 fun x4 hr3 hr2=>oe 2 z<|cb Tryz.call34 z z (c_M_IsFact a1 u1 (g1.now hC5.keep) (x2.1,x2.2) v2 (h3.now hC5.keep) x4 hr3) fun w6 hB5=>have hC6:=hC5.grow hB5;Ab<|tk 3 z z (Cy z)<|B2 z z<|Ab<|tm 4 z z z<|BE (fun hc2=>?_) (fun hc2=>?_)
     ·replace hr2:=AF hr2 hc2
      refine sk 5 z z z z z<|sk 6 z z z z z<|sk 7 z z z z z<|sk 8 z z z z z<|sk 9 z z z z z<|sk 10 z z z z z<|sk 11 z z z z z<|sk 12 z z z z z<|sk 13 z z z z z<|sk 14 z z z z z<|sk 15 z z z z z<|sk 16 z z z z z<|tp 17 z z z z<|dn<|?_
      obtain rfl:=Aa hr2
      have hC7:=hC6.h0
      exact Ay (l':=[(0,u1),(1,u2),(7,u2),(8,(I (List.length a2:Int))),(9,(I x1)),(31,(.bool true))]) ⟨z,z,z,z,z,z,Am⟩<|⟨true,z,z,((Ao hB4).then hB5).below,hC7⟩
     replace hr2:=AG hr2 hc2
     refine tn 5 z z z z z<|tg 6 z z z z (fl_gtr z z)<|Aj z z<|Cs z z z<|Ab<|tn 7 z z z z z<|BE (fun hc3=>?_) (fun hc3=>?_)
     ·replace hr2:=AF hr2 hc3
      refine tn 8 z z z z z<|tn 9 z z z z z<|tg 10 z z z z (CJ z z)<|Aj z z<|Cb z z z<|Ab<|be hr2 fun x5 hx2 hr2=>tg 11 z z z z (BL Ah ty29 g2 hx2 z z)<|Aj z z<|Bc Ah ty29 g2 hx2 z z z fun b3 o2 h4=>Ab<|wAS (l':=[(0,u1),(1,u2),(5,(I x1)),(6,(ptr b2 0)),(7,u2),(8,(I (List.length a2:Int))),(9,(I x1)),(10,(.bool (decide (x1 < (List.length a2:Int))))),(11,(I x1)),(12,(ptr b1 o1)),(13,(.agg #[(I x2.1),v2])),(14,u1),(15,(.agg #[(I x2.1),v2])),(16,(.bool x4)),(17,(.bool (!x4))),(18,(.bool false)),(19,(I x1)),(20,(.bool (decide (0 < x1)))),(21,(.bool true)),(22,u2),(23,(I x1)),(24,(I (w64 (x1 - 1)))),(25,(ptr b3 o2))]) ⟨z,z,z,z,z,z,z,z,z,z,z,z,z,z,z,z,z,z,z,z,z,z,z,Am⟩<|Bm [⟨12,[],fun vs=>Cw [] w0 x5,[]⟩,⟨13,[],fun vs=>AU (.agg #[(I x2.1),v2]),[]⟩] [[],[]] 4 z (by kernel_rfl) (by kernel_rfl) z ?_ ?_
      ·refine An z ?_ ?_
       ·intro w7 hB6
        refine Av<|⟨_,z,?_⟩
        exact Aj z z<|Bf ty29 h4 (hC6.keep.then hB6) z z fun v5 h7=>Ab<|A0 (Aq _ _) z z ⟨z,h7⟩
       refine An z ?_ ?_
       ·intro w7 hB6
        refine Av<|⟨_,z,?_⟩
        exact Aj z z<|Ar [(I x2.1),v2] (hC6.grow hB6) 0 z z z Bu AI z z<|Ab<|A0 (Aq _ _) z z ⟨z,z⟩
       exact Bd
      intro w9 hB7
      refine Au z z z ?_
      rintro v5 _ ⟨rfl,h7⟩
      obtain ⟨v4,rfl,h6⟩:=BJ h7
      refine Au z z z ?_
      rintro _ _ ⟨rfl,rfl⟩
      refine Bn fun hn1 hb1=>have hC8:=hC6.grow hB7;be hr2 fun x6 hr4 hr2=>oe 14 z<|Aj z z<|ci CN z z (c_M_CompareFacts x5 v4 (h6.now hC8.keep) (x2.1,x2.2) v2 (h3.now hC8.keep) x6 hr4) fun w10 hB8=>have hC9:=hC8.grow hB8;Ab<|tg 15 z z z z (fl_geq z z)<|Aj z z<|C7 z z z<|Ab<|tg 16 z z z z (C9 z z)<|Aj z z<|AX z z z<|Ab<|tq 17 z z z z<|dn<|?_
      obtain rfl:=Aa hr2
      have hC10:=hC9.h0
      exact Ay (l':=[(0,u1),(1,u2),(7,u2),(8,(I (List.length a2:Int))),(9,(I x1)),(31,(.bool (decide (0 ≤ x6))))]) ⟨z,z,z,z,z,z,Am⟩<|⟨(decide (0 ≤ x6)),z,z,((((Ao hB4).then hB5).then hB7).then hB8).below,hC10⟩
     replace hr2:=AG hr2 hc3
     refine sk 8 z z z z z<|sk 9 z z z z z<|sk 10 z z z z z<|sk 11 z z z z z<|sk 12 z z z z z<|sk 13 z z z z z<|sk 14 z z z z z<|sk 15 z z z z z<|tg 16 z z z z (CA z z)<|Aj z z<|AH z z z<|Ab<|tq 17 z z z z<|dn<|?_
     obtain rfl:=Aa hr2
     have hC11:=hC6.h0
     exact Ay (l':=[(0,u1),(1,u2),(7,u2),(8,(I (List.length a2:Int))),(9,(I x1)),(31,(.bool false))]) ⟨z,z,z,z,z,z,Am⟩<|⟨false,z,z,((Ao hB4).then hB5).below,hC11⟩
    rintro _ w4 ⟨x3,rfl,rfl,hB3,hC4⟩
    try dsimp only at hL1
    refine AN z (fun hc4=>?_) (fun hc4=>?_)
    ·replace hL1:=AF hL1 hc4
     refine Ad<|Ag z z<|Ab<|AL<|Bz<|A7<|A7<|Bz<|A7<|A7<|?_
     obtain rfl:=Aa hL1
     dsimp only at hF
     obtain rfl:=Aa hF
     exact AE z z<|⟨_,z,Bh hC4 _⟩
    replace hL1:=AG hL1 hc4
    exact AR<|Bi<|Ax<|Bt<|By z z z<|Af z z<|Ab<|Ay (l':=[(0,u1),(1,u2),(7,u2),(8,(I (List.length a2:Int))),(9,(I (w64 (x1+1))))]) ⟨z,z,z,z,z,Am⟩<|⟨k1,AS _,w64 (x1+1),z,hC4,hL1⟩
   replace hL1:=AG hL1 hc1
   refine BD (AY (AY (B1 ?_)))
   obtain rfl:=Aa hL1
   exact Ay (l':=[(0,u1),(1,u2)]) ⟨z,z,Am⟩<|⟨z,z,hC1⟩
 rintro l3 _ w11 hs3 ⟨rfl,rfl,hC12⟩
 try dsimp only at hF
 refine Bj hs3 ?_
 clear hs3
 refine be hF fun r3 hr5 hF=>BP (fun l w=>∃x7:Bool,x7=r3∧l=[(4,(.bool x7))]∧Below w11.heap.size w11 w∧Ctx [] w0 w []) ?_ ?_
 ·refine Bt<|Af z z<|be hr5 fun x8 hr6 hr5=>cb Tryz.call80 z z (c_M_IsSchema a1 u1 (g1.now hC12.keep) x8 hr6) fun w13 hB11=>have hC14:=hC12.grow hB11;Af z z<|B3 (fun hc5=>?_) (fun hc5=>?_)
  ·replace hr5:=AF hr5 hc5
   refine Aj z z<|Af z z<|Aj z z<|Bo Ah g2 z z<|Aj z z<|CH z z z<|AX z z z<|Ag z z<|Ab<|?_
   obtain rfl:=Aa hr5
   exact Ay (l':=[(4,(.bool (decide ((List.length a2:Int) ≤ 24))))]) ⟨z,Am⟩<|⟨(decide ((List.length a2:Int) ≤ 24)),z,z,(Ao hB11).below,hC14⟩
  replace hr5:=AG hr5 hc5
  refine gs z z z z<|gs z z z z<|gs z z z z<|AH z z z<|Ag z z<|Ab<|?_
  obtain rfl:=Aa hr5
  exact Ay (l':=[(4,(.bool false))]) ⟨z,Am⟩<|⟨false,z,z,(Ao hB11).below,hC14⟩
 rintro _ w12 ⟨x7,rfl,rfl,hB10,hC13⟩
 try dsimp only at hF
 refine AL ?_
 obtain rfl:=Aa hF
 exact AE z z<|⟨_,z,Bh hC13 _⟩
theorem c_M_IsSource {w0:World} (a1:(List Int)) (u1:Value) (g1:RO [] w0 u1 a1) (a2:((List (Int × (List Int))) × Int)) (u2:Value) (g2:RO [] w0 u2 a2.1) (rr:Bool) (hF:M.IsSource a1 a2=some rr) :
 Calls Tryz.prog 10 [u1,(.agg #[u2,(I a2.2)])].toArray w0 fun e w'=>∃v,e=.returned v∧Res w0 rr v w':=by
 refine A4 Tryz.func10 z z ?_
 have hC0:=AD w0
 unfold M.IsSource at hF
 refine Ad<|B0 (cs:=[u2,(I a2.2)]) hC0 z z z fun b1 w1 hC1 hB1 hN1=>Ag z z<|Ab<|be hF fun r1 hr1 hF=>BP (fun l w=>∃x1:Bool,x1=r1∧l=[(4,(.bool x1))]∧Below w1.heap.size w1 w∧Ctx [] w0 w []) ?_ ?_
 ·refine Bt<|Af z z<|fd A1 AV z z z z<|At hC1 0 z z Bq z z<|be hr1 fun x2 hr2 hr1=>cb Tryz.call44 z z (c_M_AreFacts a1 u1 (g1.now hC1.keep) a2.1 u2 (g2.now hC1.keep) x2 hr2) fun w3 hB3=>have hC3:=hC1.grow hB3;Af z z<|B3 (fun hc1=>?_) (fun hc1=>?_)
  ·replace hr1:=AF hr1 hc1
   refine Aj z z<|fd A1 Az z z z z<|Aj z z<|At hC3 0 z z AA z z<|be hr1 fun x3 hr3 hr1=>Aj z z<|cb BR z z (c_M_within a2.2 0 1000 x3 hr3) fun w4 hB4=>have hC4:=hC3.grow hB4;AX z z z<|Ag z z<|Ab<|?_
   obtain rfl:=Aa hr1
   have hC5:=hC4.h0
   exact Ay (l':=[(4,(.bool x3))]) ⟨z,Am⟩<|⟨x3,z,z,((Ao hB3).then hB4).below,hC5⟩
  replace hr1:=AG hr1 hc1
  refine gs z z z z<|gs z z z z<|gs z z z z<|AH z z z<|Ag z z<|Ab<|?_
  obtain rfl:=Aa hr1
  have hC6:=hC3.h0
  exact Ay (l':=[(4,(.bool false))]) ⟨z,Am⟩<|⟨false,z,z,(Ao hB3).below,hC6⟩
 rintro _ w2 ⟨x1,rfl,rfl,hB2,hC2⟩
 try dsimp only at hF
 refine AL ?_
 obtain rfl:=Aa hF
 exact AE z z<|⟨_,z,Bh hC2 _⟩
theorem c_Slices_Clone_Lint_int {w0:World} (a1:(List Int)) (u1:Value) (g1:RO [] w0 u1 a1) (rr:(List Int)) (hF:Slices.Clone_Lint_int a1=some rr) :
 Calls Tryz.prog 82 [u1].toArray w0 fun e w'=>∃v,e=.returned v∧Res w0 rr v w':=by
 refine A4 Tryz.func82 z z ?_
 have hC0:=AD w0
 unfold Slices.Clone_Lint_int at hF
 refine Ad<|Ag z z<|Ab<|AC<|Ad<|Af z z<|WL_isnil Ap g1 z z fun bn1 hb1=>Ab<|?_
 rcases btf bn1 with hc1 | hc1
 ·have ha:=hb1 hc1
  subst hc1
  subst ha
  replace hF:(some ([]):Option (List Int))=some rr:=by simpa [app] using hF
  refine CB z<|Ad<|Ag z z<|Ab<|AL<|A7<|?_
  obtain rfl:=Aa hF
  exact AE z z<|⟨_,z,nil_res hC0⟩
 subst hc1
 refine CC z<|AR<|Ax<|Ad<|AK (vs:=[]) hC0 Ap ty3 z z z z (by simp) z z fun b1 w1 hC1 hB1=>?_
 have hC2:=hC1.row0 (α:=Int)
 have hC3:=hC2.front 1 z
 dsimp only [List.eraseIdx,List.cons_append,List.nil_append,List.append_nil] at hC3
 have hC4:Ctx [] w0 w1 (Ae (.slice (some ⟨b1,0,none⟩) 0 0) (([]:List Int):List Int)::[]):=hC3.rowOwn (by simp [maxLen])
 refine Af z z<|be hF fun x1 hx1 hF=>B9 (α:=Int) hC4 0 z g1 hC4.keep Ap ty3 z hx1 z z z fun v1 w2 hC5=>?_
 try dsimp only [List.set] at hC5
 refine Ag z z<|Ab<|AL<|?_
 obtain rfl:=Aa hF
 exact AE z z<|⟨_,z,Cd hC5 0 z⟩
theorem c_M_copyFact {w0:World} (a1:(Int × (List Int))) (u1:Value) (g1:RO [] w0 u1 a1.2) (rr:(Int × (List Int))) (hF:M.copyFact a1=some rr) :
 Calls Tryz.prog 75 [(.agg #[(I a1.1),u1])].toArray w0 fun e w'=>∃v,e=.returned v∧Res w0 rr v w':=by
 refine A4 Tryz.func75 z z ?_
 have hC0:=AD w0
 unfold M.copyFact at hF
 refine Ad<|B0 (cs:=[(I a1.1),u1]) hC0 z z z fun b1 w1 hC1 hB1 hN1=>AW hC1 zero29 z z fun b2 w2 hC2 hB2 hN2=>Ab<|AC<|W_drawn 7 z hmix fun w3 hB3=>have hC3:=hC2.grow hB3;tf 0 A3 Az z z z z z<|tf 2 A3 A2 z z z z z<|be hF fun x1 hr1 hF=>wAS (l':=[(0,(.agg #[(I a1.1),u1])),(1,(ptr b1 0)),(2,(ptr b2 0)),(3,(ptr b1 0)),(5,(ptr b1 1))]) ⟨z,z,z,z,z,Am⟩<|Bm [⟨1,[],fun vs=>AU (I a1.1),[]⟩,⟨3,[],fun vs=>AU u1,[]⟩,⟨4,[],fun vs=>Ct x1,[]⟩] [[],[],[3]] 2 z (by kernel_rfl) (by kernel_rfl) z ?_ ?_
 ·refine An z ?_ ?_
  ·intro w5 hB5
   refine Av<|⟨_,z,?_⟩
   exact At (hC3.grow hB5) 1 z z AA z z<|Ab<|A0 (Aq _ _) z z ⟨z,z⟩
  refine An z ?_ ?_
  ·intro w5 hB5
   refine Av<|⟨_,z,?_⟩
   exact At (hC3.grow hB5) 1 z z AT z z<|Ab<|A0 (Aq _ _) z z ⟨z,z⟩
  refine An z ?_ ?_
  ·intro w5 hB5
   refine A6 z z z ?_
   rintro _ _ ⟨rfl,rfl⟩ _
   refine Av<|⟨_,z,?_⟩
   refine A8 Tryz.call82 z z (c_Slices_Clone_Lint_int a1.2 u1 (g1.now (hC3.keep.then hB5)) x1 hr1) ?_
   rintro v1 w4 ⟨hB4,F1,hv1,hn1,hb1⟩
   exact Ab<|Cn hB4 z z hv1 hn1 hb1 (Val.inh hv1)
  exact Bd
 intro w6 hB6
 refine Au z z z ?_
 rintro _ _ ⟨rfl,rfl⟩
 refine Au z z z ?_
 rintro _ _ ⟨rfl,rfl⟩
 refine Au z z z fun v1 F1 hv1=>Bn fun hn2 hb2=>?_
 have hC4:=hC3.pushL hB6 (Bs:=[Ae v1 (x1:(List Int))]) (Fs:=[F1]) ⟨F1,_,z,hv1,z⟩ (by simpa using hn2) (fun b h=>(hb2 b (by simpa using h)).1)
 refine tk 5 z z (Cm (vs:=[(0,(I a1.1)),(1,v1)]) z z (built29_0_1 z (Ca (hC4.ro 0 z))))<|BB (vs:=[(0,(I a1.1)),(1,v1)]) z z z (built29_0_1 z (Ca (hC4.ro 0 z)))<|Ab<|oe 6 z<|Al (cs':=[(I a1.1),v1]) (new:=[(I a1.1),v1]) hC4 1 z z (fac z<|fac (AP (hC4.ro 0 z))<|fa0) z AI z z fun w7 hC5 hKp1=>?_
 try dsimp only [List.set] at hC5
 have hk1:=Ak ((((Ao hB1).then hB2).then hB3).then hB6) (Ai (Ao hB1).size hN2) hKp1
 have hk2:=Ak (((Ao hB2).then hB3).then hB6) hN2 hKp1
 refine Ab<|dn<|Ax<|AL<|?_
 obtain rfl:=Aa hF
 refine BM z (rv_cell_agg (cs':=[(I a1.1),v1]) hC5 (i:=1) z z z Bu AI z) ?_
 have hC6:=Cf a1.1 v1 x1 hC5
 exact ⟨_,z,Cd hC6 0 z⟩
theorem c_M_copyFacts {w0:World} (a1:(List (Int × (List Int)))) (u1:Value) (g1:RO [] w0 u1 a1) (rr:(List (Int × (List Int)))) (hF:M.copyFacts a1=some rr) :
 Calls Tryz.prog 67 [u1].toArray w0 fun e w'=>∃v,e=.returned v∧Res w0 rr v w':=by
 refine A4 Tryz.func67 z z ?_
 have hC0:=AD w0
 unfold M.copyFacts at hF
 refine Ad<|Ag z z<|Ab<|Ad<|AK (vs:=[]) hC0 Ah ty29 z z z z (by simp) z z fun b1 w1 hC1 hB1=>?_
 have hC2:=hC1.row0 (α:=(Int × (List Int)))
 have hC3:=hC2.front 1 z
 dsimp only [List.eraseIdx,List.cons_append,List.nil_append,List.append_nil] at hC3
 have hC4:Ctx [] w0 w1 (Ae (.slice (some ⟨b1,0,none⟩) 0 0) (([]:List (Int × (List Int))):List (Int × (List Int)))::[]):=hC3.rowOwn (by simp [maxLen])
 refine Ag z z<|Ab<|AC<|Ad<|Af z z<|Bo Ah g1 z z<|Af z z<|Ab<|be hF fun r1 hr1 hF=>Bv (fun l w=>∃v2:Value,∃x3:(List (Int × (List Int))),x3=r1∧l=[(3,v2)]∧Ctx [] w0 w [Ae v2 (x3:(List (Int × (List Int))))]) ?_ ?_
 ·refine Bb<|wS (l':=[(3,(.slice (some ⟨b1,0,none⟩) 0 0)),(7,u1),(8,(I (List.length a1:Int))),(9,(I 0))]) ⟨z,z,z,z,Am⟩<|BC (fun k l w=>∃v1:Value,∃x1:(List (Int × (List Int))),∃x2:Int,l=[(3,v1),(7,u1),(8,(I (List.length a1:Int))),(9,(I x2))]∧Ctx [] w0 w [Ae v1 (x1:(List (Int × (List Int))))]∧M.copyFacts_l1 a1 k x1 x2=some r1) FUEL ⟨(.slice (some ⟨b1,0,none⟩) 0 0),([]:List (Int × (List Int))),0,z,hC4,hr1⟩<|?_
  clear hr1
  rintro k1 _ w2 ⟨v1,x1,x2,rfl,hC5,hL1⟩
  cases k1 with
  | zero=>rw [M.copyFacts_l1] at hL1; cases hL1
  | succ k1 =>
   rw [M.copyFacts_l1] at hL1
   refine Ad<|B6 z z z<|Ab<|AC<|AN z (fun hc1=>?_) (fun hc1=>?_)
   ·replace hL1:=AF hL1 hc1
    refine AR<|Ax<|AC<|Bb<|Ad<|be hL1 fun x4 hx1 hL1=>Bc Ah ty29 g1 hx1 z z z fun b2 o1 h1=>Bf ty29 h1 hC5.keep z z fun v3 h2=>?_
    obtain ⟨v4,rfl,h3⟩:=BJ h2
    refine AW hC5 zero29 z z fun b3 w3 hC6 hB3 hN1=>Al (cs':=[(I x4.1),v4]) (new:=[(I x4.1),v4]) hC6 0 z z (fac z<|fac (AP h3)<|fa0) z AI z z fun w4 hC7 hKp1=>?_
    try dsimp only [List.set] at hC7
    have hk1:=Ak (Ao hB3) hN1 hKp1
    refine Ab<|Bt<|Af z z<|Ar [(I x4.1),v4] hC7 0 z z z Bu AI z z<|be hL1 fun x5 hr2 hL1=>A8 Tryz.call75 z z (c_M_copyFact (x4.1,x4.2) v4 (h3.now hC7.keep) x5 hr2)<|?_
    rintro v5 w5 ⟨hB4,F1,hv1,hn1,hb1⟩
    have hC8:=hC7.push hB4 (A:=Ae v5 x5) hv1 hn1 hb1
    obtain ⟨v6,rfl,hC9⟩:=st29_own hC8
    refine AK (vs:=[(.agg #[(I x5.1),v6])]) hC9 Ah ty29 z z z z (fac z<|fa0) z z (fun b4 w6 hC10 hB5=>?_)
    have hC11:=hC10.row0 (α:=(Int × (List Int)))
    have hC13:=hC11.f2
    have hC12:=Cf x5.1 v6 x5.2 hC13
    have hC14:=hC12.row1
    have hC15:=hC14.front 1 z
    dsimp only [List.eraseIdx,List.cons_append,List.nil_append,List.append_nil] at hC15
    have hC16:Ctx [] w0 w6 (Ae (.slice (some ⟨b4,0,none⟩) 1 1) ([(x5.1,x5.2)]:List (Int × (List Int)))::[Ac b3 [(I x4.1),v4],Ae v1 (x1:(List (Int × (List Int))))]):=hC15.rowOwn (by simp [maxLen])
    refine be hL1 fun x6 hx2 hL1=>BH hC16 1 z Ah ty29 z hx2 z z z fun v7 w7 hC17=>?_
    try dsimp only [List.set] at hC17
    exact Ag z z<|Ab<|Bi<|Ax<|Bt<|By z z z<|Af z z<|Ab<|have hC19:=hC17.f1;have hC20:=hC19.h1;Ay (l':=[(3,v7),(7,u1),(8,(I (List.length a1:Int))),(9,(I (w64 (x2+1))))]) ⟨z,z,z,z,Am⟩<|⟨k1,AS _,v7,x6,w64 (x2+1),z,hC20,hL1⟩
   replace hL1:=AG hL1 hc1
   refine BD (AY (AY (B1 ?_)))
   obtain rfl:=Aa hL1
   exact Ay (l':=[(3,v1)]) ⟨z,Am⟩<|⟨v1,x1,z,z,hC5⟩
 rintro l2 _ w9 hs2 ⟨v2,x3,rfl,rfl,hC21⟩
 try dsimp only at hF
 refine Bj hs2 ?_
 clear hs2
 refine Ad<|Af z z<|Ag z z<|Ab<|AL<|?_
 obtain rfl:=Aa hF
 exact AE z z<|⟨_,z,Cd hC21 0 z⟩
theorem c_M_copySource {w0:World} (a1:((List (Int × (List Int))) × Int)) (u1:Value) (g1:RO [] w0 u1 a1.1) (rr:((List (Int × (List Int))) × Int)) (hF:M.copySource a1=some rr) :
 Calls Tryz.prog 32 [(.agg #[u1,(I a1.2)])].toArray w0 fun e w'=>∃v,e=.returned v∧Res w0 rr v w':=by
 refine A4 Tryz.func32 z z ?_
 have hC0:=AD w0
 unfold M.copySource at hF
 refine Ad<|B0 (cs:=[u1,(I a1.2)]) hC0 z z z fun b1 w1 hC1 hB1 hN1=>AW hC1 zero27 z z fun b2 w2 hC2 hB2 hN2=>Ab<|AC<|W_drawn 7 z hmix fun w3 hB3=>have hC3:=hC2.grow hB3;tf 0 A1 AV z z z z z<|tf 3 A1 Az z z z z z<|be hF fun x1 hr1 hF=>wAS (l':=[(0,(.agg #[u1,(I a1.2)])),(1,(ptr b1 0)),(2,(ptr b2 0)),(3,(ptr b1 0)),(6,(ptr b1 1))]) ⟨z,z,z,z,z,Am⟩<|Bm [⟨1,[],fun vs=>AU u1,[]⟩,⟨2,[],fun vs=>Ct x1,[]⟩,⟨4,[],fun vs=>AU (I a1.2),[]⟩] [[],[1],[]] 2 z (by kernel_rfl) (by kernel_rfl) z ?_ ?_
 ·refine An z ?_ ?_
  ·intro w5 hB5
   refine Av<|⟨_,z,?_⟩
   exact At (hC3.grow hB5) 1 z z Bq z z<|Ab<|A0 (Aq _ _) z z ⟨z,z⟩
  refine An z ?_ ?_
  ·intro w5 hB5
   refine A6 z z z ?_
   rintro _ _ ⟨rfl,rfl⟩ _
   refine Av<|⟨_,z,?_⟩
   refine A8 Tryz.call67 z z (c_M_copyFacts a1.1 u1 (g1.now (hC3.keep.then hB5)) x1 hr1) ?_
   rintro v1 w4 ⟨hB4,F1,hv1,hn1,hb1⟩
   exact Ab<|Cn hB4 z z hv1 hn1 hb1 (Val.inh hv1)
  refine An z ?_ ?_
  ·intro w5 hB5
   refine Av<|⟨_,z,?_⟩
   exact At (hC3.grow hB5) 1 z z AA z z<|Ab<|A0 (Aq _ _) z z ⟨z,z⟩
  exact Bd
 intro w6 hB6
 refine Au z z z ?_
 rintro _ _ ⟨rfl,rfl⟩
 refine Au z z z fun v1 F1 hv1=>Au z z z<|?_
 rintro _ _ ⟨rfl,rfl⟩
 refine Bn ?_
 intro hn2 hb2
 have hC4:=hC3.pushL hB6 (Bs:=[Ae v1 (x1:(List (Int × (List Int))))]) (Fs:=[F1]) ⟨F1,_,z,hv1,z⟩ (by simpa using hn2) (fun b h=>(hb2 b (by simpa using h)).1)
 refine tk 5 z z (Cm (vs:=[(0,v1),(1,(I a1.2))]) z z (built27_0_1 (Ca (hC4.ro 0 z)) z))<|BB (vs:=[(0,v1),(1,(I a1.2))]) z z z (built27_0_1 (Ca (hC4.ro 0 z)) z)<|Ab<|oe 6 z<|Al (cs':=[v1,(I a1.2)]) (new:=[v1,(I a1.2)]) hC4 1 z z (fac (AP (hC4.ro 0 z))<|fac z<|fa0) z Aw z z fun w7 hC5 hKp1=>?_
 try dsimp only [List.set] at hC5
 have hk1:=Ak ((((Ao hB1).then hB2).then hB3).then hB6) (Ai (Ao hB1).size hN2) hKp1
 have hk2:=Ak (((Ao hB2).then hB3).then hB6) hN2 hKp1
 refine Ab<|dn<|Ax<|AL<|?_
 obtain rfl:=Aa hF
 refine BM z (rv_cell_agg (cs':=[v1,(I a1.2)]) hC5 (i:=1) z z z A9 Aw z) ?_
 have hC6:=Cl v1 x1 a1.2 hC5
 exact ⟨_,z,Cd hC6 0 z⟩
theorem c_M_HasFact_c1 {w0:World} (a1:(Int × (List Int))) (u1:Value) (g1:RO [] w0 u1 a1.2) (pb1:Nat) (ax1:(Int × (List Int))) (g2:ROAt [] w0 pb1 0 ax1) (rr:Bool) (hF:M.HasFact_c1 a1 ax1=some rr) :
 Calls Tryz.prog 69 [(.agg #[(I a1.1),u1]),(ptr pb1 0)].toArray w0 fun e w'=>∃v,e=.returned v∧Res w0 rr v w':=by
 refine A4 Tryz.func69 z z ?_
 have hC0:=AD w0
 unfold M.HasFact_c1 at hF
 refine Ad<|B0 (cs:=[(I a1.1),u1]) hC0 z z z fun b1 w1 hC1 hB1 hN1=>Ag z z<|Ab<|Ad<|Ar [(I a1.1),u1] hC1 0 z z z Bu AI z z<|Bf ty29 g2 hC1.keep z z fun v1 h1=>?_
 obtain ⟨v2,rfl,h2⟩:=BJ h1
 refine be hF fun x1 hr1 hF=>ci CN z z (c_M_CompareFacts (a1.1,a1.2) u1 (g1.now hC1.keep) ax1 v2 (h2.now hC1.keep) x1 hr1) fun w2 hB2=>have hC2:=hC1.grow hB2;BO z z z<|Ag z z<|Ab<|AL<|?_
 obtain rfl:=Aa hF
 exact AE z z<|⟨_,z,Bh hC2 _⟩
theorem c_Slices_IndexFunc_Limpl_Fact_impl_Fact_M_HasFact_c1 {w0:World} (a1:(List (Int × (List Int)))) (u1:Value) (g1:RO [] w0 u1 a1) (pb1:Nat) (ax1:(Int × (List Int))) (g2:ROAt [] w0 pb1 0 ax1) (rr:Int) (hF:Slices.IndexFunc_Limpl_Fact_impl_Fact_M_HasFact_c1 a1 ax1=some rr) :
 Calls Tryz.prog 72 [u1,(.func (.func 69) #[] #[(ptr pb1 0)])].toArray w0 fun e w'=>∃v,e=.returned v∧Res w0 rr v w':=by
 refine A4 CO z z ?_
 have hC0:=AD w0
 unfold Slices.IndexFunc_Limpl_Fact_impl_Fact_M_HasFact_c1 at hF
 refine Ad<|Ag z z<|Ab<|AC<|Ad<|Af z z<|Bo Ah g1 z z<|Af z z<|Ab<|be hF fun r1 hr1 hF=>Bv (fun l w=>.inl ()=r1∧l=[]∧Below w0.heap.size w0 w∧Ctx [] w0 w []) ?_ ?_
 ·refine Bb<|wS (l':=[(0,u1),(1,(.func (.func 69) #[] #[(ptr pb1 0)])),(7,(I (List.length a1:Int))),(8,(I 0))]) ⟨z,z,z,z,Am⟩<|BC (fun k l w=>∃x1:Int,l=[(0,u1),(1,(.func (.func 69) #[] #[(ptr pb1 0)])),(7,(I (List.length a1:Int))),(8,(I x1))]∧Below w0.heap.size w0 w∧Ctx [] w0 w []∧Slices.IndexFunc_Limpl_Fact_impl_Fact_M_HasFact_c1_l1 a1 ax1 k x1=some r1) FUEL ⟨0,z,(Aq _ _),hC0,hr1⟩<|?_
  clear hr1
  rintro k1 _ w1 ⟨x1,rfl,hB1,hC1,hL1⟩
  cases k1 with
  | zero=>rw [Slices.IndexFunc_Limpl_Fact_impl_Fact_M_HasFact_c1_l1] at hL1; cases hL1
  | succ k1 =>
   rw [Slices.IndexFunc_Limpl_Fact_impl_Fact_M_HasFact_c1_l1] at hL1
   refine Ad<|B6 z z z<|Ab<|AC<|AN z (fun hc1=>?_) (fun hc1=>?_)
   ·replace hL1:=AF hL1 hc1
    refine AR<|Ax<|AC<|Bb<|Ad<|Af z z<|Ag z z<|Ab<|Ad<|Af z z<|Af z z<|Af z z<|be hL1 fun x2 hx1 hL1=>Bc Ah ty29 g1 hx1 z z z fun b1 o1 h1=>Bf ty29 h1 hC1.keep z z fun v1 h2=>?_
    obtain ⟨v2,rfl,h3⟩:=BJ h2
    refine be hL1 fun x3 hr2 hL1=>Cu (cap:=[(ptr pb1 0)]) Tryz.call69 z z z (c_M_HasFact_c1 x2 v2 (h3.now hC1.keep) pb1 ax1 (g2.now hC1.keep) x3 hr2) fun _ w2 hv1=>?_
    obtain ⟨rfl,hB2⟩:=Cv hv1
    have hC2:=hC1.grow hB2
    refine Ab<|AN z (fun hc2=>?_) (fun hc2=>?_)
    ·replace hL1:=AF hL1 hc2
     refine Ad<|Af z z<|Ag z z<|Ab<|AL<|Bz<|A7<|A7<|Bz<|A7<|A7<|?_
     obtain rfl:=Aa hL1
     dsimp only at hF
     obtain rfl:=Aa hF
     exact AE z z<|⟨_,z,B7 hC2 _⟩
    replace hL1:=AG hL1 hc2
    exact AR<|Bi<|Ax<|Bt<|By z z z<|Af z z<|Ab<|Ay (l':=[(0,u1),(1,(.func (.func 69) #[] #[(ptr pb1 0)])),(7,(I (List.length a1:Int))),(8,(I (w64 (x1+1))))]) ⟨z,z,z,z,Am⟩<|⟨k1,AS _,w64 (x1+1),z,((Ao hB1).then hB2).below,hC2,hL1⟩
   replace hL1:=AG hL1 hc1
   refine BD (AY (AY (B1 ?_)))
   obtain rfl:=Aa hL1
   exact Ay (l':=[]) Am<|⟨z,z,(Ao hB1).below,hC1⟩
 rintro l2 _ w3 hs2 ⟨rfl,rfl,hB3,hC3⟩
 try dsimp only at hF
 refine Bj hs2 ?_
 clear hs2
 refine Ad<|Ag z z<|Ab<|AL<|?_
 obtain rfl:=Aa hF
 exact AE z z<|⟨_,z,B7 hC3 _⟩
theorem c_Slices_ContainsFunc_Limpl_Fact_impl_Fact_M_HasFact_c1 {w0:World} (a1:(List (Int × (List Int)))) (u1:Value) (g1:RO [] w0 u1 a1) (pb1:Nat) (ax1:(Int × (List Int))) (g2:ROAt [] w0 pb1 0 ax1) (rr:Bool) (hF:Slices.ContainsFunc_Limpl_Fact_impl_Fact_M_HasFact_c1 a1 ax1=some rr) :
 Calls Tryz.prog 68 [u1,(.func (.func 69) #[] #[(ptr pb1 0)])].toArray w0 fun e w'=>∃v,e=.returned v∧Res w0 rr v w':=by
 refine A4 Tryz.func68 z z ?_
 have hC0:=AD w0
 unfold Slices.ContainsFunc_Limpl_Fact_impl_Fact_M_HasFact_c1 at hF
 refine Ad<|Ag z z<|Ab<|Ad<|Af z z<|Af z z<|be hF fun x1 hr1 hF=>ci CP z z (c_Slices_IndexFunc_Limpl_Fact_impl_Fact_M_HasFact_c1 a1 u1 (g1.now hC0.keep) pb1 ax1 (g2.now hC0.keep) x1 hr1) fun w1 hB1=>have hC1:=hC0.grow hB1;C7 z z z<|Ag z z<|Ab<|AL<|?_
 obtain rfl:=Aa hF
 exact AE z z<|⟨_,z,Bh hC1 _⟩
theorem c_M_HasFact {w0:World} (a1:(List (Int × (List Int)))) (u1:Value) (g1:RO [] w0 u1 a1) (a2:(Int × (List Int))) (u2:Value) (g2:RO [] w0 u2 a2.2) (rr:Bool) (hF:M.HasFact a1 a2=some rr) :
 Calls Tryz.prog 33 [u1,(.agg #[(I a2.1),u2])].toArray w0 fun e w'=>∃v,e=.returned v∧Res w0 rr v w':=by
 refine A4 Tryz.func33 z z ?_
 have hC0:=AD w0
 unfold M.HasFact at hF
 refine Ad<|B0 (cs:=[(I a2.1),u2]) hC0 z z z fun b1 w1 hC1 hB1 hN1=>Ag z z<|Ab<|Ad<|Af z z<|C3 z z<|be hF fun x1 hr1 hF=>cb Tryz.call68 z z (c_Slices_ContainsFunc_Limpl_Fact_impl_Fact_M_HasFact_c1 a1 u1 (g1.now hC1.keep) b1 (a2.1,a2.2) (hC1.boxAt 0 z (repw_pair repw_int (repw_slice (g2.now hC1.keep)))) x1 hr1) fun w2 hB2=>have hC2:=hC1.grow hB2;Ag z z<|Ab<|AL<|?_
 obtain rfl:=Aa hF
 exact AE z z<|⟨_,z,Bh hC2 _⟩
theorem c_M_added_c1 {w0:World} (a1:(Int × (List Int))) (u1:Value) (g1:RO [] w0 u1 a1.2) (pb1:Nat) (ax1:(Int × (List Int))) (g2:ROAt [] w0 pb1 0 ax1) (rr:Bool) (hF:M.added_c1 a1 ax1=some rr) :
 Calls Tryz.prog 73 [(.agg #[(I a1.1),u1]),(ptr pb1 0)].toArray w0 fun e w'=>∃v,e=.returned v∧Res w0 rr v w':=by
 refine A4 Tryz.func73 z z ?_
 have hC0:=AD w0
 unfold M.added_c1 at hF
 refine Ad<|B0 (cs:=[(I a1.1),u1]) hC0 z z z fun b1 w1 hC1 hB1 hN1=>Ag z z<|Ab<|Ad<|Ar [(I a1.1),u1] hC1 0 z z z Bu AI z z<|Bf ty29 g2 hC1.keep z z fun v1 h1=>?_
 obtain ⟨v2,rfl,h2⟩:=BJ h1
 refine be hF fun x1 hr1 hF=>ci CN z z (c_M_CompareFacts (a1.1,a1.2) u1 (g1.now hC1.keep) ax1 v2 (h2.now hC1.keep) x1 hr1) fun w2 hB2=>have hC2:=hC1.grow hB2;Cs z z z<|Ag z z<|Ab<|AL<|?_
 obtain rfl:=Aa hF
 exact AE z z<|⟨_,z,Bh hC2 _⟩
theorem c_Slices_Insert_Limpl_Fact_impl_Fact {Fs:List (List Nat)} {w0:World} (a1:(List (Int × (List Int)))) (u1:Value) (a2:Int) (a3:(List (Int × (List Int)))) (u2:Value) (hH:Hold [Ae u1 (a1:(List (Int × (List Int)))),Ae u2 (a3:(List (Int × (List Int))))] w0 Fs) (hn:Fs.flatten.Nodup) (rr:(List (Int × (List Int)))) (hF:Slices.Insert_Limpl_Fact_impl_Fact a1 a2 a3=some rr) :
 Calls Tryz.prog 74 [u1,(I a2),u2].toArray w0 fun e w'=>∃v,e=.returned v∧∃q0:Value,v=q0∧Ctx Fs.flatten w0 w' [Ae q0 (rr:(List (Int × (List Int))))]:=by
 refine A4 Tryz.func74 z z ?_
 have hC0:=B4 hH hn
 unfold Slices.Insert_Limpl_Fact_impl_Fact at hF
 obtain ⟨m,rfl,hm,hb1,hlim,rfl⟩:=ins_some hF
 have hsub:sub a1 (m:Int) (a1.length:Int)=some (a1.drop m):=by unfold sub; rw [if_pos (by omega)]; simp
 have hb1':(a3.length:Int)=1:=by omega
 have hlim':a1.length+1 ≤ 4294967296:=by rw [LIM_eq] at hlim; exact hlim
 have hw1:w64 ((a1.length:Int)+1)=((a1.length+1:Nat):Int):=by rw [w64_id (by omega) (by omega)]; omega
 have hw2:w64 (((a1.length+1:Nat):Int) - (m:Int))=((a1.length+1 - m:Nat):Int):=by rw [w64_id (by omega) (by omega)]; omega
 have hw3:w64 ((m:Int)+1)=((m+1:Nat):Int):=by rw [w64_id (by omega) (by omega)]; omega
 refine Ad<|Ag z z<|Ab<|Ad<|Af z z<|Af z z<|WL_slice_l Ah ty29 (hC0.ro 0 z) hsub z z z fun v1 h1=>Ab<|Ad<|Af z z<|Bo Ah (hC0.ro 1 z) z z<|?_
 rw [hb1']
 refine Ag z z<|Ab<|AC<|Ad<|Af z z<|BO z z z<|Ab<|CC z<|AR<|Ax<|Ad<|Af z z<|Bo Ah (hC0.ro 0 z) z z<|Ag z z<|Ab<|AC<|Ad<|Af z z<|Af z z<|BO z z z<|?_
 by_cases hi:m=a1.length
 ·have e1:a1.take m ++ a3 ++ a1.drop m=a1 ++ a3:=by rw [List.take_of_length_le (by omega),List.drop_of_length_le (by omega),List.append_nil]
  rw [e1,decide_eq_true (show (m:Int)=(a1.length:Int) by omega)]
  refine Ab<|CB z<|Ad<|Af z z<|Af z z<|?_
  have happ:app a1 a3=some (a1 ++ a3):=by unfold app; rw [if_pos (by omega)]
  exact BH hC0.swap 0 z Ah ty29 z happ z z z fun v2 w2 hC2=>Ag z z<|Ab<|AL<|A7<|AE z z<|⟨_,z,_,z,hC2⟩
 rw [decide_eq_false (show ¬ (m:Int)=(a1.length:Int) by omega)]
 refine Ab<|CC z<|AR<|Ax<|?_
 have hml:m < a1.length:=by omega
 obtain ⟨b,c,row,T,cells,Fe,vb,vc,vrow,vT,vcells,Ge,rfl,rfl,h4,g4,h5,g5,h6,g6,h8,g8,h10,h11,h12,h13,h14,h15,hK⟩:=hC0.ins_raw (by intro e; rw [e] at hml; simp at hml) (by intro e; rw [e] at hb1; simp at hb1)
 have hcl:=elems_len h5
 have hvl:=elems_len g5
 rw [hb1] at hvl
 have hyl:(cells.drop (m * Rep.sz (Int × (List Int)))).length=(a1.length - m) * Rep.sz (Int × (List Int)):=by rw [List.length_drop,hcl,Nat.sub_mul]
 have hvr:(vrow.toList.drop 0).take (1 * Rep.sz (Int × (List Int)))=vcells:=by rw [List.drop_zero,← g6,hb1]
 have hv1:=elems_one g5
 have hy1:∀ u ∈ cells.drop (m * Rep.sz (Int × (List Int))),u.oneCell'=true:=fun u hu=>elems_one h5 u (List.mem_of_mem_drop hu)
 refine AC<|Ad<|Af z z<|Af z z<|By z z z<|?_
 rw [hw1]
 refine Af z z<|WL_cap Ah z z<|Cs z z z<|?_
 by_cases hr:c < a1.length+1
 ·rw [decide_eq_true (show (c:Int) < ((a1.length+1:Nat):Int) by omega)]
  refine Ab<|CB z<|Ad<|Af z z<|Af z z<|WL_sl_h Ah ty29 (show m ≤ c by omega) (by omega) z z z<|Af z z<|Af z z<|By z z z<|?_
  rw [hw1]
  refine Af z z<|Cb z z z<|?_
  rw [hw2]
  refine WL_zeros Ah ty29 z Cx h4 (take_cells h6 hm) (by rw [List.length_take,hcl,Nat.min_eq_left (Nat.mul_le_mul_right _ hm)]) (show 0 < a1.length+1 - m by omega) (by omega) (by rw [LIM_eq]; omega) z z z (fun c' row' k1 k2 k3 k4=>?_)
  rw [show m+(a1.length+1 - m)=a1.length+1 by omega] at k3 ⊢
  obtain ⟨q1,q2,q3⟩:=row_grow (row':=row') hm hcl hvl k1 k2 k3
  obtain ⟨w1,hw1e⟩:∃w1,w1=w0.drew.alloc (.cells row' 29):=⟨_,z⟩
  have hA1:w1.heap[w0.heap.size]?=some (.cells row' 29 (0,0)):=by rw [hw1e]; exact heap_alloc_new w0.drew _
  have hB1:Below w0.heap.size w0 w1:=by rw [hw1e]; exact below_new w0 _
  rw [← hw1e]
  refine Ag z z<|Ab<|Ad<|Af z z<|Af z z<|CF Ah ty29 (show m < c' by omega) (show m ≤ a1.length+1 by omega) k3 z z z<|Af z z<|WL_copy (m:=1) Ah ty29 hA1 ((hB1.block vb (heap_lt g4)).trans g4) (by show Nat.min a3.length (a1.length+1 - m)=1; rw [hb1]; exact Nat.min_eq_left (by omega)) hvr hvl hv1 (by rw [hvl,k2,Nat.zero_add,← Nat.add_mul]; exact Nat.mul_le_mul_right _ (by omega)) z z z<|?_
  generalize hr1:(row'.toList.take (0+m * Rep.sz (Int × (List Int))) ++ vcells ++ row'.toList.drop (0+m * Rep.sz (Int × (List Int))+vcells.length)).toArray=r1 at q1 q2 q3 ⊢
  have hA2:(w1.setRow w0.heap.size r1).heap[w0.heap.size]?=some (.cells r1 29 (0,0)):=setRow_heap _ _ _ _ _ _ hA1
  have hB2:Below w0.heap.size w0 (w1.setRow w0.heap.size r1):=below_row hB1 (Nat.le_refl _)
  refine Ab<|AC<|W_drawn 9 z hmix fun w3 hB3=>tk 0 z z (C8 z)<|Af z z<|Ab<|tk 1 z z (C8 z)<|Af z z<|Ab<|tk 2 z z (C8 z)<|Af z z<|Ab<|tk 3 z z (fl_add z z)<|By z z z<|?_
  rw [hw3]
  refine Ab<|tk 4 z z (fl_sl_l Ah ty29 (show m+1 < c' by omega) (show m+1 ≤ a1.length+1 by omega) k3 z z)<|CF Ah ty29 (show m+1 < c' by omega) (show m+1 ≤ a1.length+1 by omega) k3 z z z<|Ab<|tk 5 z z (C8 z)<|Af z z<|Ab<|tk 6 z z (C8 z)<|Af z z<|Ab<|tk 7 z z (fl_sl_l Ah ty29 (show m < c by omega) hm h10 z z)<|CF Ah ty29 (show m < c by omega) hm h10 z z z<|Ab<|?_
  have hA3:w3.heap[w0.heap.size]?=some (.cells r1 29 (0,0)):=(hB3.block _ (heap_lt hA2)).trans hA2
  have hB30:Below w0.heap.size w0 w3:=hB2.trans ⟨hB3.os,hB3.tape,hB3.output,hB3.size,fun k hk=>hB3.block k (Nat.lt_of_lt_of_le hk hB2.size)⟩
  refine oe 8 z<|WL_copy (m:=a1.length - m) Ah ty29 hA3 ((hB30.block b (heap_lt h4)).trans h4) (by show Nat.min (a1.length - m) (a1.length+1 - (m+1))=a1.length - m; rw [show a1.length+1 - (m+1)=a1.length - m by omega]; exact Nat.min_self _) (drop_cells h6) hyl hy1 (by rw [hyl,q3,Nat.zero_add,← Nat.add_mul]; exact Nat.mul_le_mul_right _ (by omega)) z z z<|?_
  generalize hr2:(r1.toList.take (0+(m+1) * Rep.sz (Int × (List Int))) ++ cells.drop (m * Rep.sz (Int × (List Int))) ++ r1.toList.drop (0+(m+1) * Rep.sz (Int × (List Int))+(cells.drop (m * Rep.sz (Int × (List Int)))).length)).toArray=r2 at q1 q2 ⊢
  refine Ab<|dn<|Ax<|Ad<|Af z z<|Ag z z<|Ab<|AL<|A7<|AE z z<|?_
  have hB4:Below w0.heap.size w0 (w3.setRow w0.heap.size r2):=below_row hB30 (Nat.le_refl _)
  have hin:∀ k ∈ Fe ++ Ge,k < w0.heap.size:=fun k hk=>(List.mem_append.1 hk).elim (elems_inh h5 k) (elems_inh g5 k)
  obtain ⟨F',e1,e2,e3⟩:=ins_val (w':=w3.setRow w0.heap.size r2) h5 g5 h14 hm hb1 (g:=w0.heap.size) (fun h=>absurd (hin _ h) (Nat.lt_irrefl _)) (setRow_heap _ _ _ _ _ _ hA3) (fun k hk=>hB4.block k (hin k hk)) q1 q2 k3 k4
  exact ⟨_,z,_,z,hK _ _ _ F' ⟨hB4.os,hB4.tape,hB4.output,hB4.size,fun k hk _=>hB4.block k hk⟩ e1 e2 (fun k hk=>(e3 k hk).elim (fun h=>.inr (.inr (Nat.le_of_eq h.symm))) (fun h=>.inr (.inl h)))⟩
 rw [decide_eq_false (show ¬ (c:Int) < ((a1.length+1:Nat):Int) by omega)]
 refine Ab<|CC z<|AR<|Ax<|?_
 have k3:a1.length+1 ≤ c:=by omega
 obtain ⟨q1,q2,q3⟩:=row_shift hm hcl hvl h6 h8 k3
 refine Ad<|Af z z<|Af z z<|Af z z<|By z z z<|?_
 rw [hw1]
 refine WL_sl_h Ah ty29 k3 (by omega) z z z<|Ag z z<|Ab<|AC<|Ad<|Af z z<|Af z z<|Af z z<|Af z z<|By z z z<|?_
 rw [hw3]
 refine CF Ah ty29 (show m+1 < c by omega) (show m+1 ≤ a1.length+1 by omega) k3 z z z<|WL_apart (R:=4) (run_callFunc_extern Tryz.func96 (by kernel_rfl) (by kernel_rfl) (by kernel_rfl) (by kernel_rfl)) Ah ty29 h13 h4 g4 (by rw [h8]; exact Nat.ne_of_gt (Nat.mul_pos (by omega) (by decide))) z z z<|B2 z z<|Ab<|CB z<|AC<|W_drawn 9 z hmix fun w3 hB3=>tk 0 z z (C8 z)<|Af z z<|Ab<|tk 1 z z (C8 z)<|Af z z<|Ab<|tk 2 z z (C8 z)<|Af z z<|Ab<|tk 3 z z (fl_add z z)<|By z z z<|?_
 rw [hw3]
 refine Ab<|tk 4 z z (fl_sl_l Ah ty29 (show m+1 < c by omega) (show m+1 ≤ a1.length+1 by omega) k3 z z)<|CF Ah ty29 (show m+1 < c by omega) (show m+1 ≤ a1.length+1 by omega) k3 z z z<|Ab<|tk 5 z z (C8 z)<|Af z z<|Ab<|tk 6 z z (C8 z)<|Af z z<|Ab<|tk 7 z z (fl_sl_l Ah ty29 (show m < c by omega) (show m ≤ a1.length+1 by omega) k3 z z)<|CF Ah ty29 (show m < c by omega) (show m ≤ a1.length+1 by omega) k3 z z z<|Ab<|?_
 have hA3:w3.heap[b]?=some (.cells row T (0,0)):=(hB3.block _ (heap_lt h4)).trans h4
 refine oe 8 z<|WL_copy (m:=a1.length - m) Ah ty29 hA3 hA3 (by show Nat.min (a1.length+1 - m) (a1.length+1 - (m+1))=a1.length - m; rw [show a1.length+1 - (m+1)=a1.length - m by omega]; exact Nat.min_eq_right (by omega)) (drop_cells h6) hyl hy1 (by rw [hyl,h8,Nat.zero_add,← Nat.add_mul]; exact Nat.mul_le_mul_right _ (by omega)) z z z<|?_
 generalize hr1:(row.toList.take (0+(m+1) * Rep.sz (Int × (List Int))) ++ cells.drop (m * Rep.sz (Int × (List Int))) ++ row.toList.drop (0+(m+1) * Rep.sz (Int × (List Int))+(cells.drop (m * Rep.sz (Int × (List Int)))).length)).toArray=r1 at q1 q2 q3 ⊢
 have hA4:(w3.setRow b r1).heap[b]?=some (.cells r1 T (0,0)):=setRow_heap _ _ _ _ _ _ hA3
 have g43:(w3.setRow b r1).heap[vb]?=some (.cells vrow vT (0,0)):=(setRow_other _ _ _ _ h13).trans ((hB3.block _ (heap_lt g4)).trans g4)
 refine Ab<|dn<|Ax<|Ad<|Af z z<|Af z z<|CF Ah ty29 (show m < c by omega) (show m ≤ a1.length+1 by omega) k3 z z z<|Af z z<|WL_copy (m:=1) Ah ty29 hA4 g43 (by show Nat.min a3.length (a1.length+1 - m)=1; rw [hb1]; exact Nat.min_eq_left (by omega)) hvr hvl hv1 (by rw [hvl,q3,Nat.zero_add,← Nat.add_mul]; exact Nat.mul_le_mul_right _ (by omega)) z z z<|?_
 generalize hr2:(r1.toList.take (0+m * Rep.sz (Int × (List Int))) ++ vcells ++ r1.toList.drop (0+m * Rep.sz (Int × (List Int))+vcells.length)).toArray=r2 at q1 q2 ⊢
 refine Ab<|Ad<|Af z z<|Ag z z<|Ab<|AL<|A7<|AE z z<|?_
 have hK4:Keep [b] w0 ((w3.setRow b r1).setRow b r2):=Keep.row (Keep.row ⟨hB3.os,hB3.tape,hB3.output,hB3.size,fun k hk _=>hB3.block k hk⟩)
 have hin:∀ k ∈ Fe ++ Ge,k < w0.heap.size:=fun k hk=>(List.mem_append.1 hk).elim (elems_inh h5 k) (elems_inh g5 k)
 obtain ⟨F',e1,e2,e3⟩:=ins_val (w':=(w3.setRow b r1).setRow b r2) h5 g5 h14 hm hb1 (g:=b) h15 (setRow_heap _ _ _ _ _ _ hA4) (fun k hk=>hK4.block k (hin k hk) (by simp only [List.mem_singleton]; intro e; exact h15 (e ▸ hk))) q1 q2 k3 h11
 exact ⟨_,z,_,z,hK _ _ _ F' hK4 e1 e2 (fun k hk=>(e3 k hk).elim .inl (fun h=>.inr (.inl h)))⟩
theorem c_Slices_IndexFunc_Limpl_Fact_impl_Fact_M_added_c1 {w0:World} (a1:(List (Int × (List Int)))) (u1:Value) (g1:RO [] w0 u1 a1) (pb1:Nat) (ax1:(Int × (List Int))) (g2:ROAt [] w0 pb1 0 ax1) (rr:Int) (hF:Slices.IndexFunc_Limpl_Fact_impl_Fact_M_added_c1 a1 ax1=some rr) :
 Calls Tryz.prog 72 [u1,(.func (.func 73) #[] #[(ptr pb1 0)])].toArray w0 fun e w'=>∃v,e=.returned v∧Res w0 rr v w':=by
 refine A4 CO z z ?_
 have hC0:=AD w0
 unfold Slices.IndexFunc_Limpl_Fact_impl_Fact_M_added_c1 at hF
 refine Ad<|Ag z z<|Ab<|AC<|Ad<|Af z z<|Bo Ah g1 z z<|Af z z<|Ab<|be hF fun r1 hr1 hF=>Bv (fun l w=>.inl ()=r1∧l=[]∧Below w0.heap.size w0 w∧Ctx [] w0 w []) ?_ ?_
 ·refine Bb<|wS (l':=[(0,u1),(1,(.func (.func 73) #[] #[(ptr pb1 0)])),(7,(I (List.length a1:Int))),(8,(I 0))]) ⟨z,z,z,z,Am⟩<|BC (fun k l w=>∃x1:Int,l=[(0,u1),(1,(.func (.func 73) #[] #[(ptr pb1 0)])),(7,(I (List.length a1:Int))),(8,(I x1))]∧Below w0.heap.size w0 w∧Ctx [] w0 w []∧Slices.IndexFunc_Limpl_Fact_impl_Fact_M_added_c1_l1 a1 ax1 k x1=some r1) FUEL ⟨0,z,(Aq _ _),hC0,hr1⟩<|?_
  clear hr1
  rintro k1 _ w1 ⟨x1,rfl,hB1,hC1,hL1⟩
  cases k1 with
  | zero=>rw [Slices.IndexFunc_Limpl_Fact_impl_Fact_M_added_c1_l1] at hL1; cases hL1
  | succ k1 =>
   rw [Slices.IndexFunc_Limpl_Fact_impl_Fact_M_added_c1_l1] at hL1
   refine Ad<|B6 z z z<|Ab<|AC<|AN z (fun hc1=>?_) (fun hc1=>?_)
   ·replace hL1:=AF hL1 hc1
    refine AR<|Ax<|AC<|Bb<|Ad<|Af z z<|Ag z z<|Ab<|Ad<|Af z z<|Af z z<|Af z z<|be hL1 fun x2 hx1 hL1=>Bc Ah ty29 g1 hx1 z z z fun b1 o1 h1=>Bf ty29 h1 hC1.keep z z fun v1 h2=>?_
    obtain ⟨v2,rfl,h3⟩:=BJ h2
    refine be hL1 fun x3 hr2 hL1=>Cu (cap:=[(ptr pb1 0)]) Tryz.call73 z z z (c_M_added_c1 x2 v2 (h3.now hC1.keep) pb1 ax1 (g2.now hC1.keep) x3 hr2) fun _ w2 hv1=>?_
    obtain ⟨rfl,hB2⟩:=Cv hv1
    have hC2:=hC1.grow hB2
    refine Ab<|AN z (fun hc2=>?_) (fun hc2=>?_)
    ·replace hL1:=AF hL1 hc2
     refine Ad<|Af z z<|Ag z z<|Ab<|AL<|Bz<|A7<|A7<|Bz<|A7<|A7<|?_
     obtain rfl:=Aa hL1
     dsimp only at hF
     obtain rfl:=Aa hF
     exact AE z z<|⟨_,z,B7 hC2 _⟩
    replace hL1:=AG hL1 hc2
    exact AR<|Bi<|Ax<|Bt<|By z z z<|Af z z<|Ab<|Ay (l':=[(0,u1),(1,(.func (.func 73) #[] #[(ptr pb1 0)])),(7,(I (List.length a1:Int))),(8,(I (w64 (x1+1))))]) ⟨z,z,z,z,Am⟩<|⟨k1,AS _,w64 (x1+1),z,((Ao hB1).then hB2).below,hC2,hL1⟩
   replace hL1:=AG hL1 hc1
   refine BD (AY (AY (B1 ?_)))
   obtain rfl:=Aa hL1
   exact Ay (l':=[]) Am<|⟨z,z,(Ao hB1).below,hC1⟩
 rintro l2 _ w3 hs2 ⟨rfl,rfl,hB3,hC3⟩
 try dsimp only at hF
 refine Bj hs2 ?_
 clear hs2
 refine Ad<|Ag z z<|Ab<|AL<|?_
 obtain rfl:=Aa hF
 exact AE z z<|⟨_,z,B7 hC3 _⟩
theorem c_M_added {w0:World} {Fs:List (List Nat)} (a1:(List (Int × (List Int)))) (u1:Value) (a2:(Int × (List Int))) (u2:Value) (g2:RO Fs.flatten w0 u2 a2.2) (hH:Hold [Ae u1 (a1:(List (Int × (List Int))))] w0 Fs) (hn:Fs.flatten.Nodup) (rr:(List (Int × (List Int)))) (hF:M.added a1 a2=some rr) :
 Calls Tryz.prog 35 [u1,(.agg #[(I a2.1),u2])].toArray w0 fun e w'=>∃v,e=.returned v∧∃q0:Value,v=q0∧Ctx Fs.flatten w0 w' [Ae q0 (rr:(List (Int × (List Int))))]:=by
 refine A4 Tryz.func35 z z ?_
 have hC0:=B4 hH hn
 unfold M.added at hF
 refine Ad<|B0 (cs:=[(I a2.1),u2]) hC0 z z z fun b1 w1 hC1 hB1 hN1=>Ag z z<|Ab<|AC<|Ad<|Af z z<|Ar [(I a2.1),u2] hC1 0 z z z Bu AI z z<|be hF fun x1 hr1 hF=>cb Tryz.call33 z z (c_M_HasFact a1 u1 ((hC1.ro 1 z).now (Be _ _)) (a2.1,a2.2) u2 (g2.now hC1.keep) x1 hr1) fun w2 hB2=>have hC2:=hC1.grow hB2;Ab<|AN z (fun hc1=>?_) (fun hc1=>?_)
 ·replace hF:=AF hF hc1
  refine Ad<|Af z z<|Ag z z<|Ab<|AL<|A7<|?_
  obtain rfl:=Aa hF
  exact AE z z<|have hC3:=hC2.f1;have hC4:=hC3.h1;⟨_,z,_,z,hC4⟩
 replace hF:=AG hF hc1
 refine AR<|Ax<|Ad<|Af z z<|C3 z z<|be hF fun x2 hr2 hF=>ci CP z z (c_Slices_IndexFunc_Limpl_Fact_impl_Fact_M_added_c1 a1 u1 ((hC2.ro 1 z).now (Be _ _)) b1 (a2.1,a2.2) (hC2.boxAt 0 z (repw_pair repw_int (repw_slice (g2.now hC2.keep)))) x2 hr2) fun w3 hB3=>have hC5:=hC2.grow hB3;Ag z z<|Ab<|AC<|Ad<|Af z z<|B6 z z z<|Ab<|be hF fun r1 hr3 hF=>Bv (fun l w=>∃x3:Int,x3=r1∧l=[(0,u1),(3,(ptr b1 0)),(5,(I x3))]∧Below w3.heap.size w3 w∧Ctx Fs.flatten w0 w [Ac b1 [(I a2.1),u2],Ae u1 (a1:(List (Int × (List Int))))]) ?_ ?_
 ·refine AN z (fun hc2=>?_) (fun hc2=>?_)
  ·replace hr3:=AF hr3 hc2
   refine Bt<|Af z z<|Bo Ah (hC5.ro 1 z) z z<|Ag z z<|Ab<|?_
   obtain rfl:=Aa hr3
   exact Ay (l':=[(0,u1),(3,(ptr b1 0)),(5,(I (List.length a1:Int)))]) ⟨z,z,z,Am⟩<|⟨(List.length a1:Int),z,z,(Aq _ _),hC5⟩
  replace hr3:=AG hr3 hc2
  refine AR ?_
  obtain rfl:=Aa hr3
  exact Ay (l':=[(0,u1),(3,(ptr b1 0)),(5,(I x2))]) ⟨z,z,z,Am⟩<|⟨x2,z,z,(Aq _ _),hC5⟩
 rintro l1 _ w4 hs1 ⟨x3,rfl,rfl,hB4,hC6⟩
 try dsimp only at hF
 refine Bj hs1 ?_
 clear hs1
 refine Ad<|Af z z<|Af z z<|Ar [(I a2.1),u2] hC6 0 z z z Bu AI z z<|be hF fun x4 hr4 hF=>A8 Tryz.call75 z z (c_M_copyFact (a2.1,a2.2) u2 (g2.now hC6.keep) x4 hr4)<|?_
 rintro v1 w5 ⟨hB5,F1,hv3,hn1,hb1⟩
 have hC7:=hC6.push hB5 (A:=Ae v1 x4) hv3 hn1 hb1
 obtain ⟨v2,rfl,hC8⟩:=st29_own hC7
 refine AK (vs:=[(.agg #[(I x4.1),v2])]) hC8 Ah ty29 z z z z (fac z<|fa0) z z (fun b2 w6 hC9 hB6=>?_)
 have hC10:=hC9.row0 (α:=(Int × (List Int)))
 have hC12:=hC10.f2
 have hC11:=Cf x4.1 v2 x4.2 hC12
 have hC13:=hC11.row1
 have hC14:=hC13.front 1 z
 dsimp only [List.eraseIdx,List.cons_append,List.nil_append,List.append_nil] at hC14
 have hC15:Ctx Fs.flatten w0 w6 (Ae (.slice (some ⟨b2,0,none⟩) 1 1) ([(x4.1,x4.2)]:List (Int × (List Int)))::[Ac b1 [(I a2.1),u2],Ae u1 (a1:(List (Int × (List Int))))]):=hC14.rowOwn (by simp [maxLen])
 refine be hF fun x5 hr5 hF=>have hC17:=hC15.f2;?_
 obtain ⟨Fs1,hH1,hn2,hF1,hO1,hb2⟩:=AB (As:=[Ac b1 [(I a2.1),u2]]) [Ae u1 (a1:(List (Int × (List Int)))),Ae (.slice (some ⟨b2,0,none⟩) 1 1) ([(x4.1,x4.2)]:(List (Int × (List Int))))] hC17
 refine A8 Tryz.call74 z z (c_Slices_Insert_Limpl_Fact_impl_Fact a1 u1 x3 ([(x4.1,x4.2)]) (.slice (some ⟨b2,0,none⟩) 1 1) hH1 hn2 x5 hr5) ?_
 rintro v3 w7 ⟨_,rfl,hq4⟩
 have hC18:Ctx Fs.flatten w0 w7 [Ae v3 (x5:(List (Int × (List Int)))),Ac b1 [(I a2.1),u2]]:=hb2 _ _ hq4
 refine Ag z z<|Ab<|AL<|?_
 obtain rfl:=Aa hF
 exact AE z z<|have hC20:=hC18.h1;⟨_,z,_,z,hC20⟩
theorem c_M_ApplyChange_c1 {w0:World} (a1:(Int × (List Int))) (u1:Value) (g1:RO [] w0 u1 a1.2) (pb1:Nat) (ax1:(Bool × (Int × (List Int)))) (g2:ROAt [] w0 pb1 0 ax1) (rr:Bool) (hF:M.ApplyChange_c1 a1 ax1=some rr) :
 Calls Tryz.prog 37 [(.agg #[(I a1.1),u1]),(ptr pb1 0)].toArray w0 fun e w'=>∃v,e=.returned v∧Res w0 rr v w':=by
 refine A4 Tryz.func37 z z ?_
 have hC0:=AD w0
 unfold M.ApplyChange_c1 at hF
 refine Ad<|B0 (cs:=[(I a1.1),u1]) hC0 z z z fun b1 w1 hC1 hB1 hN1=>Ag z z<|Ab<|Ad<|Ar [(I a1.1),u1] hC1 0 z z z Bu AI z z<|fd Bk AI z z z z<|Bf ty29 g2.snd hC1.keep z z fun v1 h1=>?_
 obtain ⟨v2,rfl,h2⟩:=BJ h1
 refine be hF fun x1 hr1 hF=>ci CN z z (c_M_CompareFacts (a1.1,a1.2) u1 (g1.now hC1.keep) ax1.2 v2 (h2.now hC1.keep) x1 hr1) fun w2 hB2=>have hC2:=hC1.grow hB2;BO z z z<|Ag z z<|Ab<|AL<|?_
 obtain rfl:=Aa hF
 exact AE z z<|⟨_,z,Bh hC2 _⟩
theorem c_Slices_IndexFunc_Limpl_Fact_impl_Fact_M_ApplyChange_c1 {w0:World} (a1:(List (Int × (List Int)))) (u1:Value) (g1:RO [] w0 u1 a1) (pb1:Nat) (ax1:(Bool × (Int × (List Int)))) (g2:ROAt [] w0 pb1 0 ax1) (rr:Int) (hF:Slices.IndexFunc_Limpl_Fact_impl_Fact_M_ApplyChange_c1 a1 ax1=some rr) :
 Calls Tryz.prog 72 [u1,(.func (.func 37) #[] #[(ptr pb1 0)])].toArray w0 fun e w'=>∃v,e=.returned v∧Res w0 rr v w':=by
 refine A4 CO z z ?_
 have hC0:=AD w0
 unfold Slices.IndexFunc_Limpl_Fact_impl_Fact_M_ApplyChange_c1 at hF
 refine Ad<|Ag z z<|Ab<|AC<|Ad<|Af z z<|Bo Ah g1 z z<|Af z z<|Ab<|be hF fun r1 hr1 hF=>Bv (fun l w=>.inl ()=r1∧l=[]∧Below w0.heap.size w0 w∧Ctx [] w0 w []) ?_ ?_
 ·refine Bb<|wS (l':=[(0,u1),(1,(.func (.func 37) #[] #[(ptr pb1 0)])),(7,(I (List.length a1:Int))),(8,(I 0))]) ⟨z,z,z,z,Am⟩<|BC (fun k l w=>∃x1:Int,l=[(0,u1),(1,(.func (.func 37) #[] #[(ptr pb1 0)])),(7,(I (List.length a1:Int))),(8,(I x1))]∧Below w0.heap.size w0 w∧Ctx [] w0 w []∧Slices.IndexFunc_Limpl_Fact_impl_Fact_M_ApplyChange_c1_l1 a1 ax1 k x1=some r1) FUEL ⟨0,z,(Aq _ _),hC0,hr1⟩<|?_
  clear hr1
  rintro k1 _ w1 ⟨x1,rfl,hB1,hC1,hL1⟩
  cases k1 with
  | zero=>rw [Slices.IndexFunc_Limpl_Fact_impl_Fact_M_ApplyChange_c1_l1] at hL1; cases hL1
  | succ k1 =>
   rw [Slices.IndexFunc_Limpl_Fact_impl_Fact_M_ApplyChange_c1_l1] at hL1
   refine Ad<|B6 z z z<|Ab<|AC<|AN z (fun hc1=>?_) (fun hc1=>?_)
   ·replace hL1:=AF hL1 hc1
    refine AR<|Ax<|AC<|Bb<|Ad<|Af z z<|Ag z z<|Ab<|Ad<|Af z z<|Af z z<|Af z z<|be hL1 fun x2 hx1 hL1=>Bc Ah ty29 g1 hx1 z z z fun b1 o1 h1=>Bf ty29 h1 hC1.keep z z fun v1 h2=>?_
    obtain ⟨v2,rfl,h3⟩:=BJ h2
    refine be hL1 fun x3 hr2 hL1=>Cu (cap:=[(ptr pb1 0)]) Tryz.call37 z z z (c_M_ApplyChange_c1 x2 v2 (h3.now hC1.keep) pb1 ax1 (g2.now hC1.keep) x3 hr2) fun _ w2 hv1=>?_
    obtain ⟨rfl,hB2⟩:=Cv hv1
    have hC2:=hC1.grow hB2
    refine Ab<|AN z (fun hc2=>?_) (fun hc2=>?_)
    ·replace hL1:=AF hL1 hc2
     refine Ad<|Af z z<|Ag z z<|Ab<|AL<|Bz<|A7<|A7<|Bz<|A7<|A7<|?_
     obtain rfl:=Aa hL1
     dsimp only at hF
     obtain rfl:=Aa hF
     exact AE z z<|⟨_,z,B7 hC2 _⟩
    replace hL1:=AG hL1 hc2
    exact AR<|Bi<|Ax<|Bt<|By z z z<|Af z z<|Ab<|Ay (l':=[(0,u1),(1,(.func (.func 37) #[] #[(ptr pb1 0)])),(7,(I (List.length a1:Int))),(8,(I (w64 (x1+1))))]) ⟨z,z,z,z,Am⟩<|⟨k1,AS _,w64 (x1+1),z,((Ao hB1).then hB2).below,hC2,hL1⟩
   replace hL1:=AG hL1 hc1
   refine BD (AY (AY (B1 ?_)))
   obtain rfl:=Aa hL1
   exact Ay (l':=[]) Am<|⟨z,z,(Ao hB1).below,hC1⟩
 rintro l2 _ w3 hs2 ⟨rfl,rfl,hB3,hC3⟩
 try dsimp only at hF
 refine Bj hs2 ?_
 clear hs2
 refine Ad<|Ag z z<|Ab<|AL<|?_
 obtain rfl:=Aa hF
 exact AE z z<|⟨_,z,B7 hC3 _⟩
theorem c_Slices_DeleteFunc_Limpl_Fact_impl_Fact_M_ApplyChange_c1 {Fs:List (List Nat)} {w0:World} (a1:(List (Int × (List Int)))) (u1:Value) (pb1:Nat) (ax1:(Bool × (Int × (List Int)))) (g1:ROAt Fs.flatten w0 pb1 0 ax1) (hH:Hold [Ae u1 (a1:(List (Int × (List Int))))] w0 Fs) (hn:Fs.flatten.Nodup) (rr:(List (Int × (List Int)))) (hF:Slices.DeleteFunc_Limpl_Fact_impl_Fact_M_ApplyChange_c1 a1 ax1=some rr) :
 Calls Tryz.prog 36 [u1,(.func (.func 37) #[] #[(ptr pb1 0)])].toArray w0 fun e w'=>∃v,e=.returned v∧∃q0:Value,v=q0∧Ctx Fs.flatten w0 w' [Ae q0 (rr:(List (Int × (List Int))))]:=by
 refine A4 Tryz.func36 z z ?_
 have hC0:=B4 hH hn
 unfold Slices.DeleteFunc_Limpl_Fact_impl_Fact_M_ApplyChange_c1 at hF
 refine be hF fun x hx hF=>Ad<|Ag z z<|Ab<|Ad<|Af z z<|Af z z<|ci CP z z (c_Slices_IndexFunc_Limpl_Fact_impl_Fact_M_ApplyChange_c1 a1 u1 (hC0.ro 0 z) pb1 ax1 (g1.now (Be _ _)) x hx) fun w1 hB1=>have hC1:=hC0.grow hB1;Ag z z<|Ab<|AC<|Ad<|Af z z<|BO z z z<|?_
 by_cases hx1:x=-1
 ·rw [if_pos hx1] at hF
  obtain rfl:=Aa hF
  rw [decide_eq_true hx1]
  exact Ab<|CB z<|Ad<|Af z z<|Ag z z<|Ab<|AL<|A7<|AE z z<|⟨_,z,_,z,hC1⟩
 rw [if_neg hx1] at hF
 have hr:0 ≤ x∧x < (a1.length:Int):=Classical.byContradiction fun h=>by rw [if_neg h] at hF; cases hF
 rw [if_pos hr] at hF
 obtain ⟨m,rfl⟩:∃m:Nat,x=m:=⟨x.toNat,by omega⟩
 have hm:m < a1.length:=by omega
 have hlim:=(hC0.ro 0 z).lt
 simp only [maxLen] at hlim
 rw [Int.toNat_natCast] at hF
 rw [decide_eq_false hx1]
 refine Ab<|CC z<|AR<|Ax<|AC<|Ad<|Af z z<|By z z z<|?_
 rw [show w64 ((m:Int)+1)=((m+1:Nat):Int) by rw [w64_id (by omega) (by omega)]; omega]
 refine Ag z z<|Ab<|?_
 obtain ⟨b,c,rfl,hc1,hc2,hD0⟩:=hC1.del_open hm
 have hml:(a1.take m).length=m:=by rw [List.length_take]; omega
 refine Bv (fun l w=>∃kept:List (Int × (List Int)),∃g:Nat,l=[(0,.slice (some ⟨b,0,none⟩) a1.length c),(5,.int .i64 (kept.length:Int))]∧0 < g∧kept.length+g=a1.length∧kept=rr∧Ctx Fs.flatten w0 w [Item.del b c kept g ([]:List (Int × (List Int)))]) ?_ ?_
 ·refine Bb<|wS (l':=[(0,.slice (some ⟨b,0,none⟩) a1.length c),(1,(.func (.func 37) #[] #[(ptr pb1 0)])),(5,.int .i64 (m:Int)),(6,.int .i64 ((m+1:Nat):Int))]) ⟨z,z,z,z,Am⟩<|BC (fun k l w=>∃kept:List (Int × (List Int)),∃g:Nat,∃rest:List (Int × (List Int)),l=[(0,.slice (some ⟨b,0,none⟩) a1.length c),(1,(.func (.func 37) #[] #[(ptr pb1 0)])),(5,.int .i64 (kept.length:Int)),(6,.int .i64 ((kept.length+g:Nat):Int))]∧0 < g∧kept.length+g+rest.length=a1.length∧dfl (fun e=>M.ApplyChange_c1 e ax1) kept rest=some rr∧k=rest.length∧Ctx Fs.flatten w0 w [Item.del b c kept g rest]) (a1.drop (m+1)).length ⟨a1.take m,1,a1.drop (m+1),by rw [hml],by omega,by rw [hml,List.length_drop]; omega,hF,z,hD0⟩<|?_
  clear hF hD0
  rintro k1 _ w2 ⟨kept,g,rest,rfl,hg,hlen,hL,hk,hD⟩
  refine AC<|Ad<|Af z z<|Af z z<|WL_len_raw Ah z z<|B6 z z z<|?_
  cases rest with
  | nil =>
   have hq:=Aa hL
   simp only [List.length_nil,Nat.add_zero] at hlen
   rw [decide_eq_false (show ¬ ((kept.length+g:Nat):Int) < (a1.length:Int) by omega)]
   exact Ab<|CC z<|BD<|AY<|AY<|B1<|Ay (l':=[(0,.slice (some ⟨b,0,none⟩) a1.length c),(5,.int .i64 (kept.length:Int))]) ⟨z,z,Am⟩<|⟨kept,g,z,hg,hlen,hq,hD⟩
  | cons x rest =>
   simp only [List.length_cons] at hlen hk
   rw [decide_eq_true (show ((kept.length+g:Nat):Int) < (a1.length:Int) by omega)]
   refine Ab<|CB z<|AR<|Ax<|AC<|Bb<|Ad<|Af z z<|Af z z<|CI Ah ty29 (show kept.length+g < a1.length by omega) z z z<|?_
   obtain ⟨cs,hcs,hD1⟩:=hD.del_head
   obtain ⟨hro,row,T,hh,hrow⟩:=hD1.delh_row
   refine WL_load_raw ty29 hh (by rw [Nat.zero_add]; exact hrow) hcs z z ?_
   obtain ⟨e1,hce,_⟩:=BJ hro
   obtain rfl:=cells_of_agg (cs':=[(I x.1),e1]) hce
   rw [show mkv (Rep.agg (Int × (List Int))) [(I x.1),e1]=(.agg #[(I x.1),e1]) from z]
   refine CV hD1 zero29 z z (fun b7 w3 hD2 hB2=>?_)
   have phr:=hD2.delh_ro (α:=(Int × (List Int))) 1 z
   obtain ⟨pf0,phe,pg0⟩:=BJ phr
   replace phe:=cells_of_agg (cs:=[(I x.1),e1]) (cs':=[(I x.1),pf0]) phe
   simp only [List.cons.injEq,and_true,true_and] at phe
   obtain rfl:=phe
   refine WL_store_box_agg (cs':=[(I x.1),e1]) (new:=[(I x.1),e1]) hD2 0 z z (fac z<|fac (AP pg0)<|fa0) z AI z z (fun w4 hD3=>?_)
   try dsimp only [List.set] at hD3
   refine Ab<|Ad<|Af z z<|Ar [(I x.1),e1] hD3 0 z z z Bu AI z z<|?_
   have qhr:=hD3.delh_ro (α:=(Int × (List Int))) 1 z
   obtain ⟨qf0,qhe,qg0⟩:=BJ qhr
   replace qhe:=cells_of_agg (cs:=[(I x.1),e1]) (cs':=[(I x.1),qf0]) qhe
   simp only [List.cons.injEq,and_true,true_and] at qhe
   obtain rfl:=qhe
   obtain ⟨q,hq,hL⟩:=Cz (show (M.ApplyChange_c1 x ax1).bind (fun b=>dfl (fun e=>M.ApplyChange_c1 e ax1) (if b then kept else kept ++ [x]) rest)=some rr from hL)
   refine Cu (cap:=[(ptr pb1 0)]) Tryz.call37 z z z (c_M_ApplyChange_c1 x e1 qg0 pb1 ax1 (g1.now hD3.keep) q hq) ?_
   intro _ w5 hv2
   obtain ⟨rfl,hB5⟩:=Cv hv2
   have hD4:=hD3.grow hB5
   refine B2 z z<|Ab<|AN z (fun hq1=>?_) (fun hq1=>?_)
   ·have hqf:q=false:=by simpa using hq1
    rw [hqf] at hL
    rw [if_neg (by simp)] at hL
    refine Ad<|Af z z<|Af z z<|Ar [(I x.1),e1] hD4 0 z z z Bu AI z z<|CI Ah ty29 (show kept.length < a1.length by omega) z z z<|WL_store_del hD4.swap hg ty29 z z z fun w6 hD5=>Ab<|Bt<|Af z z<|By z z z<|?_
    rw [show w64 ((kept.length:Int)+1)=((kept ++ [x]).length:Int) by rw [w64_id (by omega) (by omega),List.length_append]; rfl]
    refine Ag z z<|Ab<|Bi<|Ax<|Bt<|Af z z<|By z z z<|?_
    rw [show w64 (((kept.length+g:Nat):Int)+1)=(((kept ++ [x]).length+g:Nat):Int) by rw [w64_id (by omega) (by omega),List.length_append]; simp only [List.length_cons,List.length_nil]; omega]
    exact Ag z z<|Ab<|Ay (l':=[(0,.slice (some ⟨b,0,none⟩) a1.length c),(1,(.func (.func 37) #[] #[(ptr pb1 0)])),(5,.int .i64 ((kept ++ [x]).length:Int)),(6,.int .i64 (((kept ++ [x]).length+g:Nat):Int))]) ⟨z,z,z,z,Am⟩<|⟨rest.length,by omega,kept ++ [x],g,rest,z,hg,by rw [List.length_append]; simp only [List.length_cons,List.length_nil]; omega,hL,z,hD5.headN 1⟩
   have hqt:q=true:=by simpa using hq1
   rw [hqt] at hL
   rw [if_pos z] at hL
   refine AR<|Bi<|Ax<|Bt<|Af z z<|By z z z<|?_
   rw [show w64 (((kept.length+g:Nat):Int)+1)=((kept.length+(g+1):Nat):Int) by rw [w64_id (by omega) (by omega)]; omega]
   refine Ag z z<|Ab<|Ay (l':=[(0,.slice (some ⟨b,0,none⟩) a1.length c),(1,(.func (.func 37) #[] #[(ptr pb1 0)])),(5,.int .i64 (kept.length:Int)),(6,.int .i64 ((kept.length+(g+1):Nat):Int))]) ⟨z,z,z,z,Am⟩<|?_
   have hD5:=(hD4.swap.headN 1).del_skip
   exact ⟨rest.length,by omega,kept,g+1,rest,z,by omega,by omega,hL,z,hD5⟩
 rintro l2 _ w8 hs2 ⟨kept,g,rfl,hg,hlen,rfl,hD⟩
 refine Bj hs2 ?_
 clear hs2
 exact Ad<|Af z z<|Af z z<|CF Ah ty29 (show kept.length < c by omega) (show kept.length ≤ a1.length by omega) hc1 z z z<|WL_clear_del hD Ah ty29 zc29 (fac z<|fac z<|fa0) hlen.symm z hg fun w9 hD9=>Ab<|Ad<|Af z z<|Af z z<|WL_sl_h Ah ty29 (hi:=kept.length) (by omega) (by omega) z z z<|Ag z z<|Ab<|AL<|AE z z<|⟨_,z,_,z,hD9⟩
theorem c_M_ApplyChange {w0:World} (a1:(List Int)) (u1:Value) (g1:RO [] w0 u1 a1) (a2:((List (Int × (List Int))) × Int)) (u2:Value) (g2:RO [] w0 u2 a2.1) (a3:(Bool × (Int × (List Int)))) (u3:Value) (g3:RO [] w0 u3 a3.2.2) (rr:(((List (Int × (List Int))) × Int) × Bool)) (hF:M.ApplyChange a1 a2 a3=some rr) :
 Calls Tryz.prog 7 [u1,(.agg #[u2,(I a2.2)]),(.agg #[(.bool a3.1),(I a3.2.1),u3])].toArray w0 fun e w'=>∃v,e=.returned v∧Res2 w0 rr.1 rr.2 v w':=by
 refine A4 Tryz.func7 z z ?_
 have hC0:=AD w0
 unfold M.ApplyChange at hF
 refine Ad<|B0 (cs:=[u2,(I a2.2)]) hC0 z z z fun b1 w1 hC1 hB1 hN1=>B0 (cs:=[(.bool a3.1),(I a3.2.1),u3]) hC1 z z z fun b2 w2 hC2 hB2 hN2=>AW hC2 zero27 z z fun b3 w3 hC3 hB3 hN3=>Ag z z<|Ab<|Ad<|Ar [u2,(I a2.2)] hC3 2 z z z A9 Aw z z<|be hF fun x1 hr1 hF=>A8 Tryz.call32 z z (c_M_copySource (a2.1,a2.2) u2 (g2.now hC3.keep) x1 hr1)<|?_
 rintro v1 w4 ⟨hB4,F1,hv1,hn1,hb1⟩
 have hC4:=hC3.push hB4 (A:=Ae v1 x1) hv1 hn1 hb1
 obtain ⟨v2,rfl,hC5⟩:=st27_own hC4
 refine AW hC5 zero27 z z fun b4 w5 hC6 hB5 hN4=>Al (cs':=[v2,(I x1.2)]) (new:=[v2,(I x1.2)]) hC6 0 z z (fac (AP (hC6.ro 1 z))<|fac z<|fa0) z Aw z z fun w6 hC7 hKp1=>?_
 try dsimp only [List.set] at hC7
 have hk1:=Ak (((((Ao hB1).then hB2).then hB3).then hB4).then hB5) (Ai ((((Ao hB1).then hB2).then hB3).then hB4).size hN4) hKp1
 have hk2:=Ak ((((Ao hB2).then hB3).then hB4).then hB5) (Ai (((Ao hB2).then hB3).then hB4).size hN4) hKp1
 have hk3:=Ak (((Ao hB3).then hB4).then hB5) (Ai ((Ao hB3).then hB4).size hN4) hKp1
 have hk4:=Ak ((Ao hB4).then hB5) (Ai (Ao hB4).size hN4) hKp1
 have hk5:=Ak (Ao hB5) hN4 hKp1
 refine Ab<|Ad<|fd A1 AV z z z z<|At hC7 4 z z Bq z z<|fd Bk AI z z z z<|Ar [(I a3.2.1),u3] hC7 3 z z z Bu AI z z<|be hF fun x2 hr2 hF=>cb Tryz.call33 z z (c_M_HasFact a2.1 u2 (g2.now hC7.keep) (a3.2.1,a3.2.2) u3 (g3.now hC7.keep) x2 hr2) fun w7 hB6=>have hC8:=hC7.grow hB6;Ag z z<|Ab<|AC<|be hF fun r1 hr3 hF=>BP (fun l w=>∃x3:Bool,x3=r1∧l=[(5,(ptr b2 0)),(6,(ptr b3 0)),(8,(ptr b4 0)),(48,(.bool x3))]∧Below w7.heap.size w7 w∧Ctx [] w0 w [Ac b4 [v2,(I x1.2)],Ae v2 (x1.1:(List (Int × (List Int)))),Ac b3 [(.slice none 0 0),(I 0)],Ac b2 [(.bool a3.1),(I a3.2.1),u3]]) ?_ ?_
 ·refine Bt<|Af z z<|Ar [u2,(I a2.2)] hC8 4 z z z A9 Aw z z<|be hr3 fun x4 hr4 hr3=>cb CQ z z (c_M_IsSource a1 u1 (g1.now hC8.keep) (a2.1,a2.2) u2 (g2.now hC8.keep) x4 hr4) fun w10 hB8=>have hC10:=hC8.grow hB8;B2 z z<|Af z z<|B3 (fun hc1=>?_) (fun hc1=>?_)
  ·replace hr3:=AF hr3 hc1
   refine gs z z z z<|gs z z z z<|gs z z z z<|gs z z z z<|gs z z z z<|AX z z z<|Af z z<|gs z z z z<|gs z z z z<|gs z z z z<|AX z z z<|Af z z<|gs z z z z<|gs z z z z<|gs z z z z<|gs z z z z<|AX z z z<|Af z z<|gs z z z z<|gs z z z z<|gs z z z z<|gs z z z z<|gs z z z z<|gs z z z z<|gs z z z z<|gs z z z z<|AX z z z<|Ab<|?_
   obtain rfl:=Aa hr3
   have hC11:=hC10.f3
   have hC12:=hC11.f3
   have hC13:=hC12.f3
   have hC14:=hC13.f3
   have hC15:=hC14.h4
   exact Ay (l':=[(5,(ptr b2 0)),(6,(ptr b3 0)),(8,(ptr b4 0)),(48,(.bool true))]) ⟨z,z,z,z,Am⟩<|⟨true,z,z,(Ao hB8).below,hC15⟩
  replace hr3:=AG hr3 hc1
  refine Aj z z<|Af z z<|Aj z z<|fd Bk AI z z z z<|Aj z z<|Ar [(I a3.2.1),u3] hC10 3 z z z Bu AI z z<|be hr3 fun x5 hr5 hr3=>Aj z z<|cb Tryz.call34 z z (c_M_IsFact a1 u1 (g1.now hC10.keep) (a3.2.1,a3.2.2) u3 (g3.now hC10.keep) x5 hr5) fun w11 hB9=>have hC16:=hC10.grow hB9;Aj z z<|B2 z z<|AH z z z<|Af z z<|B3 (fun hc2=>?_) (fun hc2=>?_)
  ·replace hr3:=AF hr3 hc2
   refine gs z z z z<|gs z z z z<|gs z z z z<|AX z z z<|Af z z<|gs z z z z<|gs z z z z<|gs z z z z<|gs z z z z<|AX z z z<|Af z z<|gs z z z z<|gs z z z z<|gs z z z z<|gs z z z z<|gs z z z z<|gs z z z z<|gs z z z z<|gs z z z z<|AX z z z<|Ab<|?_
   obtain rfl:=Aa hr3
   have hC17:=hC16.f3
   have hC18:=hC17.f3
   have hC19:=hC18.f3
   have hC20:=hC19.f3
   have hC21:=hC20.h4
   exact Ay (l':=[(5,(ptr b2 0)),(6,(ptr b3 0)),(8,(ptr b4 0)),(48,(.bool true))]) ⟨z,z,z,z,Am⟩<|⟨true,z,z,((Ao hB8).then hB9).below,hC21⟩
  replace hr3:=AG hr3 hc2
  refine Aj z z<|fd A1 Az z z z z<|Aj z z<|At hC16 4 z z AA z z<|Aj z z<|BO z z z<|AH z z z<|Af z z<|B3 (fun hc3=>?_) (fun hc3=>?_)
  ·replace hr3:=AF hr3 hc3
   refine gs z z z z<|gs z z z z<|gs z z z z<|gs z z z z<|AX z z z<|Af z z<|gs z z z z<|gs z z z z<|gs z z z z<|gs z z z z<|gs z z z z<|gs z z z z<|gs z z z z<|gs z z z z<|AX z z z<|Ab<|?_
   obtain rfl:=Aa hr3
   have hC22:=hC16.f3
   have hC23:=hC22.f3
   have hC24:=hC23.f3
   have hC25:=hC24.f3
   have hC26:=hC25.h4
   exact Ay (l':=[(5,(ptr b2 0)),(6,(ptr b3 0)),(8,(ptr b4 0)),(48,(.bool true))]) ⟨z,z,z,z,Am⟩<|⟨true,z,z,((Ao hB8).then hB9).below,hC26⟩
  replace hr3:=AG hr3 hc3
  refine Aj z z<|Af z z<|Aj z z<|fd Bk BT z z z z<|Aj z z<|At hC16 3 z z Co z z<|Aj z z<|WL_bool_eql BK z z z<|AH z z z<|Af z z<|B3 (fun hc4=>?_) (fun hc4=>?_)
  ·replace hr3:=AF hr3 hc4
   refine gs z z z z<|gs z z z z<|gs z z z z<|gs z z z z<|gs z z z z<|gs z z z z<|gs z z z z<|gs z z z z<|AX z z z<|Ab<|?_
   obtain rfl:=Aa hr3
   have hC27:=hC16.f3
   have hC28:=hC27.f3
   have hC29:=hC28.f3
   have hC30:=hC29.f3
   have hC31:=hC30.h4
   exact Ay (l':=[(5,(ptr b2 0)),(6,(ptr b3 0)),(8,(ptr b4 0)),(48,(.bool true))]) ⟨z,z,z,z,Am⟩<|⟨true,z,z,((Ao hB8).then hB9).below,hC31⟩
  replace hr3:=AG hr3 hc4
  refine Aj z z<|fd Bk BT z z z z<|Aj z z<|At hC16 3 z z Co z z<|Aj z z<|Af z z<|B3 (fun hc5=>?_) (fun hc5=>?_)
  ·replace hr3:=AF hr3 hc5
   refine Aj z z<|fd A1 AV z z z z<|Aj z z<|At hC16 4 z z Bq z z<|Aj z z<|Bo Ah g2 z z<|Aj z z<|C7 z z z<|Aj z z<|AX z z z<|AH z z z<|Ab<|?_
   obtain rfl:=Aa hr3
   have hC32:=hC16.f3
   have hC33:=hC32.f3
   have hC34:=hC33.f3
   have hC35:=hC34.f3
   have hC36:=hC35.h4
   exact Ay (l':=[(5,(ptr b2 0)),(6,(ptr b3 0)),(8,(ptr b4 0)),(48,(.bool (decide (24 ≤ (List.length a2.1:Int)))))]) ⟨z,z,z,z,Am⟩<|⟨(decide (24 ≤ (List.length a2.1:Int))),z,z,((Ao hB8).then hB9).below,hC36⟩
  replace hr3:=AG hr3 hc5
  refine gs z z z z<|gs z z z z<|gs z z z z<|gs z z z z<|Aj z z<|AH z z z<|AH z z z<|Ab<|?_
  obtain rfl:=Aa hr3
  have hC37:=hC16.f3
  have hC38:=hC37.f3
  have hC39:=hC38.f3
  have hC40:=hC39.f3
  have hC41:=hC40.h4
  exact Ay (l':=[(5,(ptr b2 0)),(6,(ptr b3 0)),(8,(ptr b4 0)),(48,(.bool false))]) ⟨z,z,z,z,Am⟩<|⟨false,z,z,((Ao hB8).then hB9).below,hC41⟩
 rintro _ w9 ⟨x3,rfl,rfl,hB7,hC9⟩
 try dsimp only at hF
 refine AN z (fun hc6=>?_) (fun hc6=>?_)
 ·replace hF:=AF hF hc6
  refine Ad<|Ar [v2,(I x1.2)] hC9 0 z z z A9 Aw z z<|Al (cs':=[v2,(I x1.2)]) (new:=[v2,(I x1.2)]) hC9 2 z z (fac (AP (hC9.ro 1 z))<|fac z<|fa0) z Aw z z fun w12 hC42 hKp2=>?_
  try dsimp only [List.set] at hC42
  have hk6:=Ak ((hk1.then hB6).then hB7) (Ai ((Ao hB1).then hB2).size hN3) hKp2
  have hk7:=Ak ((hk2.then hB6).then hB7) (Ai (Ao hB2).size hN3) hKp2
  have hk8:=Ak ((hk3.then hB6).then hB7) hN3 hKp2
  refine Ag z z<|Ab<|AL<|A7<|?_
  obtain rfl:=Aa hF
  refine C4 z (rv_cell_agg (cs':=[v2,(I x1.2)]) hC42 (i:=2) z z z A9 Aw z) (rv_tmp z) ?_
  have hC43:=hC42.triv (Ci (false))
  have hC45:=hC43.f2
  have hC44:=Cl v2 x1.1 x1.2 hC45
  exact ⟨_,z,res2_of hC44⟩
 replace hF:=AG hF hc6
 refine AR<|Ax<|AC<|Ad<|fd Bk BT z z z z<|At hC9 3 z z Co z z<|Ab<|be hF fun r2 hr6 hF=>Bv (fun l w=>∃v3:Value,∃x6:(List (Int × (List Int))),∃x7:Int,(x6,x7)=r2∧l=[(6,(ptr b3 0)),(8,(ptr b4 0))]∧Ctx [] w0 w [Ac b4 [v3,(I x7)],Ae v3 (x6:(List (Int × (List Int)))),Ac b3 [(.slice none 0 0),(I 0)]]) ?_ ?_
 ·refine AN z (fun hc7=>?_) (fun hc7=>?_)
  ·replace hr6:=AF hr6 hc7
   refine Bt<|fd A1 AV z z z z<|At hC9 0 z z Bq z z<|fd Bk AI z z z z<|Ar [(I a3.2.1),u3] hC9 3 z z z Bu AI z z<|be hr6 fun x8 hr7 hr6=>have hC47:=hC9.f1;?_
   obtain ⟨Fs1,hH1,hn2,hF1,hO1,hb2⟩:=AB (As:=[Ac b4 [v2,(I x1.2)],Ac b3 [(.slice none 0 0),(I 0)],Ac b2 [(.bool a3.1),(I a3.2.1),u3]]) [Ae v2 (x1.1:(List (Int × (List Int))))] hC47
   refine A8 Tryz.call35 z z (c_M_added x1.1 v2 (a3.2.1,a3.2.2) u3 (AJ g3 hC47.keep hF1) hH1 hn2 x8 hr7) ?_
   rintro v4 w14 ⟨_,rfl,hq8⟩
   have hC48:Ctx [] w0 w14 [Ae v4 (x8:(List (Int × (List Int)))),Ac b4 [v2,(I x1.2)],Ac b3 [(.slice none 0 0),(I 0)],Ac b2 [(.bool a3.1),(I a3.2.1),u3]]:=hb2 _ _ hq8
   refine fd A1 AV z z z z<|Br (cs':=[v4,(I x1.2)]) hC48 1 z z (AP (hC48.ro 0 z)) z AV z z fun w15 hC49 hKp3=>?_
   try dsimp only [List.set] at hC49
   refine Ab ?_
   obtain rfl:=Aa hr6
   have hC50:=hC49.f2
   have hC51:=hC50.f1
   have hC52:=hC51.f2
   have hC53:=hC52.h3
   exact Ay (l':=[(6,(ptr b3 0)),(8,(ptr b4 0))]) ⟨z,z,Am⟩<|⟨v4,x8,x1.2,z,z,hC53⟩
  replace hr6:=AG hr6 hc7
  refine Bt<|fd A1 AV z z z z<|At hC9 0 z z Bq z z<|C3 z z<|be hr6 fun x9 hr8 hr6=>have hC54:=hC9.f1;?_
  obtain ⟨Fs2,hH2,hn3,hF2,hO2,hX2,hb3⟩:=Ctx.lend3 (As:=[Ac b4 [v2,(I x1.2)],Ac b3 [(.slice none 0 0),(I 0)],Ac b2 [(.bool a3.1),(I a3.2.1),u3]]) [Ae v2 (x1.1:(List (Int × (List Int))))] hC54
  refine A8 Tryz.call36 z z (c_Slices_DeleteFunc_Limpl_Fact_impl_Fact_M_ApplyChange_c1 x1.1 v2 b2 (a3.1,(a3.2.1,a3.2.2)) (roat_box (hX2 2 _ _ z) (repd_pair repd_bool (repd_pair repd_int (repd_slice (AJ g3 hC54.keep hF2))))) hH2 hn3 x9 hr8) ?_
  rintro v5 w16 ⟨_,rfl,hq10⟩
  have hC55:Ctx [] w0 w16 [Ae v5 (x9:(List (Int × (List Int)))),Ac b4 [v2,(I x1.2)],Ac b3 [(.slice none 0 0),(I 0)],Ac b2 [(.bool a3.1),(I a3.2.1),u3]]:=hb3 _ _ hq10
  refine fd A1 AV z z z z<|Br (cs':=[v5,(I x1.2)]) hC55 1 z z (AP (hC55.ro 0 z)) z AV z z fun w17 hC56 hKp4=>?_
  try dsimp only [List.set] at hC56
  refine Ab ?_
  obtain rfl:=Aa hr6
  have hC57:=hC56.f2
  have hC58:=hC57.f1
  have hC59:=hC58.f2
  have hC60:=hC59.h3
  exact Ay (l':=[(6,(ptr b3 0)),(8,(ptr b4 0))]) ⟨z,z,Am⟩<|⟨v5,x9,x1.2,z,z,hC60⟩
 rintro l2 _ w13 hs2 ⟨v3,x6,x7,rfl,rfl,hC46⟩
 try dsimp only at hF
 refine Bj hs2 ?_
 clear hs2
 refine Ad<|fd A1 Az z z z z<|At hC46 0 z z AA z z<|By z z z<|fd A1 Az z z z z<|Br (cs':=[v3,(I (w64 (x7+1)))]) hC46 0 z z z z Az z z fun w18 hC61 hKp5=>?_
 try dsimp only [List.set] at hC61
 refine Ab<|Ad<|Ar [v3,(I (w64 (x7+1)))] hC61 0 z z z A9 Aw z z<|Al (cs':=[v3,(I (w64 (x7+1)))]) (new:=[v3,(I (w64 (x7+1)))]) hC61 2 z z (fac (AP (hC61.ro 1 z))<|fac z<|fa0) z Aw z z fun w19 hC62 hKp6=>?_
 try dsimp only [List.set] at hC62
 refine Ag z z<|Ab<|AL<|?_
 obtain rfl:=Aa hF
 refine C4 z (rv_cell_agg (cs':=[v3,(I (w64 (x7+1)))]) hC62 (i:=2) z z z A9 Aw z) (rv_tmp z) ?_
 have hC63:=hC62.triv (Ci (true))
 have hC65:=hC63.f2
 have hC64:=Cl v3 x6 (w64 (x7+1)) hC65
 exact ⟨_,z,res2_of hC64⟩
theorem c_S_IsFact {w0:World} (a1:(List Int)) (u1:Value) (g1:RO [] w0 u1 a1) (a2:(Int × (List Int))) (u2:Value) (g2:RO [] w0 u2 a2.2) (rr:Bool) (hF:S.IsFact a1 a2=some rr) :
 Calls Tryz.prog 40 [u1,(.agg #[(I a2.1),u2])].toArray w0 fun e w'=>∃v,e=.returned v∧Res w0 rr v w':=by
 refine A4 Tryz.func40 z z ?_
 have hC0:=AD w0
 unfold S.IsFact at hF
 refine Ad<|B0 (cs:=[(I a2.1),u2]) hC0 z z z fun b1 w1 hC1 hB1 hN1=>Ag z z<|Ab<|AC<|be hF fun r1 hr1 hF=>BP (fun l w=>∃x1:Bool,x1=r1∧l=[(3,(ptr b1 0)),(28,(.bool x1))]∧Below w1.heap.size w1 w∧Ctx [] w0 w [Ac b1 [(I a2.1),u2]]) ?_ ?_
 ·refine W_drawn 23 z hmix fun w3 hB3=>have hC3:=hC1.grow hB3;tm 0 z z z<|be hr1 fun x2 hr2 hr1=>oe 1 z<|cb Ck z z (c_S_IsSchema a1 u1 (g1.now hC3.keep) x2 hr2) fun w4 hB4=>have hC4:=hC3.grow hB4;Ab<|tk 2 z z (Cy z)<|B2 z z<|Ab<|tm 3 z z z<|BE (fun hc1=>?_) (fun hc1=>?_)
  ·replace hr1:=AF hr1 hc1
   refine sk 4 z z z z z<|sk 5 z z z z z<|sk 6 z z z z z<|sk 7 z z z z z<|sk 8 z z z z z<|sk 9 z z z z z<|sk 10 z z z z z<|tp 11 z z z z<|tm 12 z z z<|sk 13 z z z z z<|sk 14 z z z z z<|sk 15 z z z z z<|sk 16 z z z z z<|sk 17 z z z z z<|sk 18 z z z z z<|sk 19 z z z z z<|sk 20 z z z z z<|sk 21 z z z z z<|tp 22 z z z z<|dn<|?_
   obtain rfl:=Aa hr1
   exact Ay (l':=[(3,(ptr b1 0)),(28,(.bool true))]) ⟨z,z,Am⟩<|⟨true,z,z,((Ao hB3).then hB4).below,hC4⟩
  replace hr1:=AG hr1 hc1
  refine tg 4 z z z z (B5 A3 z z (fun w=>⟨_,Az w⟩) z)<|Aj z z<|fd A3 Az z z z z<|Ab<|tn 6 z z z z z<|tg 7 z z z z (CZ Ap g1 z)<|Aj z z<|Bo Ap g1 z z<|Ab<|tg 8 z z z z (CJ z z)<|Aj z z<|Cb z z z<|Ab<|oe 5 z<|Aj z z<|At hC4 0 z z AA z z<|Ab<|be hr1 fun x3 hr3 hr1=>oe 9 z<|Aj z z<|cb BI z z (c_S_l1In a2.1 0 (w64 ((List.length a1:Int) - 1)) x3 hr3) fun w5 hB5=>have hC5:=hC4.grow hB5;Ab<|tg 10 z z z z (Cy z)<|Aj z z<|B2 z z<|Ab<|tq 11 z z z z<|tm 12 z z z<|BE (fun hc2=>?_) (fun hc2=>?_)
  ·replace hr1:=AF hr1 hc2
   refine sk 13 z z z z z<|sk 14 z z z z z<|sk 15 z z z z z<|sk 16 z z z z z<|sk 17 z z z z z<|sk 18 z z z z z<|sk 19 z z z z z<|sk 20 z z z z z<|sk 21 z z z z z<|tp 22 z z z z<|dn<|?_
   obtain rfl:=Aa hr1
   exact Ay (l':=[(3,(ptr b1 0)),(28,(.bool true))]) ⟨z,z,Am⟩<|⟨true,z,z,(((Ao hB3).then hB4).then hB5).below,hC5⟩
  replace hr1:=AG hr1 hc2
  refine tg 13 z z z z (B5 A3 z z (fun w=>⟨_,A2 w⟩) z)<|Aj z z<|fd A3 A2 z z z z<|Ab<|tn 16 z z z z z<|tg 17 z z z z (B5 A3 z z (fun w=>⟨_,Az w⟩) z)<|Aj z z<|fd A3 Az z z z z<|Ab<|be hr1 fun x4 hx1 hr1=>wAS (l':=[(0,u1),(1,(.agg #[(I a2.1),u2])),(3,(ptr b1 0)),(4,(.bool false)),(6,u1),(7,(.bool x2)),(8,(.bool (!x2))),(9,(.bool false)),(10,(ptr b1 0)),(11,(I a2.1)),(12,u1),(13,(I (List.length a1:Int))),(14,(I (w64 ((List.length a1:Int) - 1)))),(15,(.bool x3)),(16,(.bool (!x3))),(17,(.bool (!x3))),(18,(.bool false)),(19,(ptr b1 1)),(22,u1),(23,(ptr b1 0))]) ⟨z,z,z,z,z,z,z,z,z,z,z,z,z,z,z,z,z,z,z,z,Am⟩<|Bm [⟨14,[],fun vs=>AU u2,[]⟩,⟨15,[],fun vs=>AU (I (List.length a2.2:Int)),[]⟩,⟨18,[],fun vs=>AU (I a2.1),[]⟩,⟨19,[],fun vs=>Ce [] w0 x4,[]⟩,⟨20,[],fun vs=>AU (I x4),[]⟩] [[],[14],[],[18],[19]] 2 z (by kernel_rfl) (by kernel_rfl) z ?_ ?_
  ·refine An z ?_ ?_
   ·intro w6 hB6
    refine Av<|⟨_,z,?_⟩
    exact Aj z z<|At (hC5.grow hB6) 0 z z AT z z<|Ab<|A0 (Aq _ _) z z ⟨z,z⟩
   refine An z ?_ ?_
   ·intro w6 hB6
    refine A6 z z z ?_
    rintro _ _ ⟨rfl,rfl⟩ _
    refine Av<|⟨_,z,?_⟩
    exact Aj z z<|Bo Ap g2 z z<|Ab<|A0 (Aq _ _) z z ⟨z,z⟩
   refine An z ?_ ?_
   ·intro w6 hB6
    refine Av<|⟨_,z,?_⟩
    exact Aj z z<|At (hC5.grow hB6) 0 z z AA z z<|Ab<|A0 (Aq _ _) z z ⟨z,z⟩
   refine An z ?_ ?_
   ·intro w6 hB6
    refine A6 z z z ?_
    rintro _ _ ⟨rfl,rfl⟩ _
    refine Av<|⟨_,z,?_⟩
    exact Aj z z<|Bc Ap ty3 g1 hx1 z z z fun b2 o1 h1=>Ab<|A0 (Aq _ _) z z ⟨z,_,_,z,h1⟩
   refine An z ?_ ?_
   ·intro w6 hB6
    refine A6 z z z ?_
    rintro _ _ ⟨rfl,b2,o1,rfl,h1⟩ _
    refine Av<|⟨_,z,?_⟩
    refine Aj z z<|Bf ty3 h1 (hC5.keep.then hB6) z z fun v1 h2=>?_
    obtain rfl:=BG h2
    exact Ab<|A0 (Aq _ _) z z ⟨z,z⟩
   exact Bd
  intro w7 hB7
  refine Au z z z ?_
  rintro _ _ ⟨rfl,rfl⟩
  refine Au z z z ?_
  rintro _ _ ⟨rfl,rfl⟩
  refine Au z z z ?_
  rintro _ _ ⟨rfl,rfl⟩
  refine Au z z z ?_
  rintro _ _ ⟨rfl,b2,o1,rfl,h1⟩
  refine Au z z z ?_
  rintro _ _ ⟨rfl,rfl⟩
  refine Bn fun hn1 hb1=>have hC6:=hC5.grow hB7;tg 21 z z z z (CT z z)<|Aj z z<|Cp z z z<|Ab<|tq 22 z z z z<|dn<|?_
  obtain rfl:=Aa hr1
  exact Ay (l':=[(3,(ptr b1 0)),(28,(.bool (!decide ((List.length a2.2:Int)=x4))))]) ⟨z,z,Am⟩<|⟨(!decide ((List.length a2.2:Int)=x4)),z,z,((((Ao hB3).then hB4).then hB5).then hB7).below,hC6⟩
 rintro _ w2 ⟨x1,rfl,rfl,hB2,hC2⟩
 try dsimp only at hF
 refine AN z (fun hc3=>?_) (fun hc3=>?_)
 ·replace hF:=AF hF hc3
  refine Ad<|Ag z z<|Ab<|AL<|A7<|?_
  obtain rfl:=Aa hF
  exact AE z z<|⟨_,z,Bh hC2 _⟩
 replace hF:=AG hF hc3
 refine AR<|Ax<|AC<|Ad<|Ag z z<|Ab<|be hF fun r2 hr4 hF=>Bv (fun l w=>.inl ()=r2∧l=[]∧Below w2.heap.size w2 w∧Ctx [] w0 w []) ?_ ?_
 ·refine Bb<|wS (l':=[(3,(ptr b1 0)),(5,(I 0))]) ⟨z,z,Am⟩<|BC (fun k l w=>∃x5:Int,l=[(3,(ptr b1 0)),(5,(I x5))]∧Below w2.heap.size w2 w∧Ctx [] w0 w [Ac b1 [(I a2.1),u2]]∧S.IsFact_l1 a2 k x5=some r2) FUEL ⟨0,z,(Aq _ _),hC2,hr4⟩<|?_
  clear hr4
  rintro k1 _ w9 ⟨x5,rfl,hB8,hC7,hL1⟩
  cases k1 with
  | zero=>rw [S.IsFact_l1] at hL1; cases hL1
  | succ k1 =>
   rw [S.IsFact_l1] at hL1
   refine AC<|Ad<|Af z z<|fd A3 A2 z z z z<|At hC7 0 z z AT z z<|Bo Ap g2 z z<|B6 z z z<|Ab<|AN z (fun hc4=>?_) (fun hc4=>?_)
   ·replace hL1:=AF hL1 hc4
    refine AR<|Ax<|AC<|Bb<|Ad<|fd A3 A2 z z z z<|At hC7 0 z z AT z z<|Af z z<|be hL1 fun x6 hx2 hL1=>Bc Ap ty3 g2 hx2 z z z fun b3 o2 h3=>Bf ty3 h3 hC7.keep z z fun v2 h4=>?_
    obtain rfl:=BG h4
    refine be hL1 fun x7 hr5 hL1=>cb BI z z (c_S_l1In x6 0 9 x7 hr5) fun w10 hB9=>have hC8:=hC7.grow hB9;B2 z z<|Ab<|AN z (fun hc5=>?_) (fun hc5=>?_)
    ·replace hL1:=AF hL1 hc5
     refine Ad<|Ag z z<|Ab<|AL<|Bz<|A7<|A7<|Bz<|A7<|A7<|?_
     obtain rfl:=Aa hL1
     dsimp only at hF
     obtain rfl:=Aa hF
     exact AE z z<|⟨_,z,Bh hC8 _⟩
    replace hL1:=AG hL1 hc5
    exact AR<|Bi<|Ax<|Bt<|Af z z<|By z z z<|Ag z z<|Ab<|Ay (l':=[(3,(ptr b1 0)),(5,(I (w64 (x5+1))))]) ⟨z,z,Am⟩<|⟨k1,AS _,w64 (x5+1),z,((Ao hB8).then hB9).below,hC8,hL1⟩
   replace hL1:=AG hL1 hc4
   refine BD (AY (AY (B1 ?_)))
   obtain rfl:=Aa hL1
   have hC9:=hC7.h0
   exact Ay (l':=[]) Am<|⟨z,z,(Ao hB8).below,hC9⟩
 rintro l3 _ w11 hs3 ⟨rfl,rfl,hB10,hC10⟩
 try dsimp only at hF
 refine Bj hs3 ?_
 clear hs3
 refine Ad<|Ag z z<|Ab<|AL<|?_
 obtain rfl:=Aa hF
 exact AE z z<|⟨_,z,Bh hC10 _⟩
end Go.Gx.Px
