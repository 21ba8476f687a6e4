/- The contracts of the Go functions against the pure functions, printed by program. Conditions: each says them. -/
import Derived.Test.YtngpabaocflipaaGreatC1
set_option linter.unusedVariables false
set_option linter.unusedSimpArgs false
set_option maxRecDepth 100000
set_option maxHeartbeats 4000000
namespace Go.Gx.Px
open Go.Proofs Go.RowKit
open K9
theorem c_S_l5AnyMethod {w0:World} {Fs:List (List Nat)} (pb1:Nat) (a1:((List UInt8) × Int × Int)) (u1:Value) (g1:RO Fs.flatten w0 u1 a1.1) (a2:(List Int)) (u2:Value) (g2:RO Fs.flatten w0 u2 a2) (hH:Hold [Ag pb1 [u1,(I a1.2.1),(I a1.2.2)]] w0 Fs) (hn:Fs.flatten.Nodup) (rr:((Int × (List Int) × Int × Int × Int) × ((List UInt8) × Int × Int))) (hF:S.l5AnyMethod a1 a2=some rr) :
 Calls Tryz.prog 169 [(ptr pb1 0),u2].toArray w0 fun e w'=>∃v,e=.returned v∧∃q0:Value,v=q0∧Ctx Fs.flatten w0 w' [Af q0 (rr.1:(Int × (List Int) × Int × Int × Int)),Ag pb1 [u1,(I rr.2.2.1),(I rr.2.2.2)]]:=by
 refine Ax Tryz.func169 z z ?_
 have hC0:=BE hH hn
 unfold S.l5AnyMethod at hF
 refine Ac<|Bw hC0 zero93 z z fun b1 w1 hC1 hB1 hN1=>Ab<|Ac<|BH (vs:=[(4,(I 1))]) z z z (built93_4 z)<|Bw hC1 zero93 z z fun b2 w2 hC2 hB2 hN2=>AA (cs':=[(I 0),(.slice none 0 0),(I 0),(I 0),(I 1)]) (new:=[(I 0),(.slice none 0 0),(I 0),(I 0),(I 1)]) hC2 0 z z (fac z<|fac z<|fac z<|fac z<|fac z<|fa0) z B6 z z fun w3 hC3 hKp1=>?_
 try dsimp only [List.set] at hC3
 have hk1:=AO ((Ao hB1).then hB2) (AS (Ao hB1).size hN2) hKp1
 have hk2:=AO (Ao hB2) hN2 hKp1
 refine Ab<|A6<|Ac<|Ae z z<|be hF fun x1 hr1 hF=>cb BX z z (c_S_IsSchema a2 u2 (g2.now hC3.keep) x1 hr1) fun w4 hB3=>have hC4:=hC3.grow hB3;Ab<|be hF fun r1 hr2 hF=>Bi (fun l w=>∃x2:Int,∃v1:Value,∃x3:(List Int),∃x4:Int,∃x5:Int,∃x6:Int,∃x7:Int,∃x8:Int,(x2,x3,x4,x5,x6,x7,x8)=r1∧l=[(0,(ptr pb1 0)),(4,(ptr b1 0)),(5,(ptr b2 0))]∧Ctx Fs.flatten w0 w [Af v1 (x3:(List Int)),Ag b2 [(I x2),v1,(I x4),(I x5),(I x6)],Ag b1 [(I 0),(.slice none 0 0),(I 0),(I 0),(I 0)],Ag pb1 [u1,(I x7),(I x8)]]) ?_ ?_
 ·refine AE z (fun hc1=>?_) (fun hc1=>?_)
  ·replace hr2:=A7 hr2 hc1
   refine Bg<|Ae z z<|Ae z z<|be hr2 fun x9 hr3 hr2=>have hC6:=hC4.f2;?_
   obtain ⟨Fs1,hH1,hn1,hF1,hO1,hb1⟩:=AX (As:=[Ag b2 [(I 0),(.slice none 0 0),(I 0),(I 0),(I 1)],Ag b1 [(I 0),(.slice none 0 0),(I 0),(I 0),(I 0)]]) [Ag pb1 [u1,(I a1.2.1),(I a1.2.2)]] hC6
   refine AG Tryz.call201 z z (c_S_l5Method pb1 (a1.1,a1.2.1,a1.2.2) u1 (Bf g1 hC6.keep hF1) a2 u2 (Bf g2 hC6.keep hF1) hH1 hn1 x9 hr3) ?_
   rintro v2 w6 ⟨_,rfl,hq1⟩
   have hC7:Ctx Fs.flatten w0 w6 [Af v2 (x9.1:(Int × (List Int) × Int × Int × Int)),Ag pb1 [u1,(I x9.2.2.1),(I x9.2.2.2)],Ag b2 [(I 0),(.slice none 0 0),(I 0),(I 0),(I 1)],Ag b1 [(I 0),(.slice none 0 0),(I 0),(I 0),(I 0)]]:=hb1 _ _ hq1
   obtain ⟨v3,rfl,hC8⟩:=st93_own hC7
   refine AA (cs':=[(I x9.1.1),v3,(I x9.1.2.2.1),(I x9.1.2.2.2.1),(I x9.1.2.2.2.2)]) (new:=[(I x9.1.1),v3,(I x9.1.2.2.1),(I x9.1.2.2.2.1),(I x9.1.2.2.2.2)]) hC8 2 z z (fac z<|fac (B0 (hC8.ro 0 z))<|fac z<|fac z<|fac z<|fa0) z B6 z z (fun w7 hC9 hKp2=>?_)
   try dsimp only [List.set] at hC9
   refine Ab ?_
   obtain rfl:=Aa hr2
   have hC10:=hC9.f1
   have hC11:=hC10.f3
   have hC12:=hC11.f3
   have hC13:=hC12.f3
   exact Am (l':=[(0,(ptr pb1 0)),(4,(ptr b1 0)),(5,(ptr b2 0))]) ⟨z,z,z,Aj⟩<|⟨x9.1.1,v3,x9.1.2.1,x9.1.2.2.1,x9.1.2.2.2.1,x9.1.2.2.2.2,x9.2.2.1,x9.2.2.2,z,z,hC13⟩
  replace hr2:=A8 hr2 hc1
  refine AF ?_
  obtain rfl:=Aa hr2
  have hC14:=hC4.triv (nil_val (α:=Int))
  exact Am (l':=[(0,(ptr pb1 0)),(4,(ptr b1 0)),(5,(ptr b2 0))]) ⟨z,z,z,Aj⟩<|⟨0,(.slice none 0 0),[],0,0,1,a1.2.1,a1.2.2,z,z,hC14⟩
 rintro l1 _ w5 hs1 ⟨x2,v1,x3,x4,x5,x6,x7,x8,rfl,rfl,hC5⟩
 try dsimp only at hF
 refine AY hs1 ?_
 clear hs1
 refine A6<|Ac<|Ae z z<|be hF fun x10 hr4 hF=>have hC15:=hC5.f3;?_
 obtain ⟨Fs2,hH2,hn2,hF2,hO2,hb2⟩:=AX (As:=[Af v1 (x3:(List Int)),Ag b2 [(I x2),v1,(I x4),(I x5),(I x6)],Ag b1 [(I 0),(.slice none 0 0),(I 0),(I 0),(I 0)]]) [Ag pb1 [u1,(I x7),(I x8)]] hC15
 refine AG Bo z z (c_S_l1Below pb1 (a1.1,x7,x8) u1 (Bf g1 hC15.keep hF2) 10 hH2 hn2 x10 hr4) ?_
 rintro _ w9 ⟨rfl,hq4⟩
 have hC16:Ctx Fs.flatten w0 w9 [Ag pb1 [u1,(I x10.2.2.1),(I x10.2.2.2)],Af v1 (x3:(List Int)),Ag b2 [(I x2),v1,(I x4),(I x5),(I x6)],Ag b1 [(I 0),(.slice none 0 0),(I 0),(I 0),(I 0)]]:=hb2 _ _ hq4
 refine Ab<|AJ<|Ac<|BM z z z<|Ad z z<|Ab<|be hF fun r2 hr5 hF=>Bi (fun l w=>∃x11:Int,∃x12:Int,∃x13:Int,∃v4:Value,∃x14:(List Int),∃x15:Int,∃x16:Int,∃x17:Int,(x11,x12,x13,x14,x15,x16,x17)=r2∧l=[(4,(ptr b1 0)),(5,(ptr b2 0))]∧Ctx Fs.flatten w0 w [Ag pb1 [u1,(I x11),(I x12)],Af v4 (x14:(List Int)),Ag b2 [(I x13),v4,(I x15),(I x16),(I x17)],Ag b1 [(I 0),(.slice none 0 0),(I 0),(I 0),(I 0)]]) ?_ ?_
 ·refine AE z (fun hc2=>?_) (fun hc2=>?_)
  ·replace hr5:=A7 hr5 hc2
   refine Bg<|Ae z z<|AC (vs:=[(I (-1)),(I 9),(I 10)]) hC16 Ak ty3 z z z z (fac z<|fac z<|fac z<|fa0) z z fun b3 w11 hC18 hB6=>?_
   have hC19:=hC18.row0 (α:=Int)
   have hC20:=hC19.triv (Bx (10))
   have hC21:=hC20.row1
   have hC22:=hC21.triv (Bx (9))
   have hC23:=hC22.row1
   have hC24:=hC23.triv (Bx ((-1)))
   have hC25:=hC24.row1
   have hC26:=hC25.front 1 z
   dsimp only [List.eraseIdx,List.cons_append,List.nil_append,List.append_nil] at hC26
   have hC27:Ctx Fs.flatten w0 w11 (Af (.slice (some ⟨b3,0,none⟩) 3 3) ([(-1),9,10]:List Int)::[Ag pb1 [u1,(I x10.2.2.1),(I x10.2.2.2)],Af v1 (x3:(List Int)),Ag b2 [(I x2),v1,(I x4),(I x5),(I x6)],Ag b1 [(I 0),(.slice none 0 0),(I 0),(I 0),(I 0)]]):=hC26.rowOwn (by simp [maxLen])
   refine be hr5 fun x18 hr6 hr5=>have hC28:=hC27.f1;?_
   obtain ⟨Fs3,hH3,hn3,hF3,hO3,hb3⟩:=AX (As:=[Af (.slice (some ⟨b3,0,none⟩) 3 3) ([(-1),9,10]:(List Int)),Af v1 (x3:(List Int)),Ag b2 [(I x2),v1,(I x4),(I x5),(I x6)],Ag b1 [(I 0),(.slice none 0 0),(I 0),(I 0),(I 0)]]) [Ag pb1 [u1,(I x10.2.2.1),(I x10.2.2.2)]] hC28
   refine AG BS z z (c_S_l1PickInt pb1 (a1.1,x10.2.2.1,x10.2.2.2) u1 (Bf g1 hC28.keep hF3) ([(-1),9,10]) (.slice (some ⟨b3,0,none⟩) 3 3) (hO3 0 _ _ _ z) hH3 hn3 x18 hr6) ?_
   rintro _ w12 ⟨rfl,hq5⟩
   have hC29:Ctx Fs.flatten w0 w12 [Ag pb1 [u1,(I x18.2.2.1),(I x18.2.2.2)],Af (.slice (some ⟨b3,0,none⟩) 3 3) ([(-1),9,10]:(List Int)),Af v1 (x3:(List Int)),Ag b2 [(I x2),v1,(I x4),(I x5),(I x6)],Ag b1 [(I 0),(.slice none 0 0),(I 0),(I 0),(I 0)]]:=hb3 _ _ hq5
   refine fd AB Ay z z z z<|B9 (cs':=[(I x2),v1,(I x18.1),(I x5),(I x6)]) hC29 3 z z z z Ay z z fun w13 hC30 hKp3=>?_
   try dsimp only [List.set] at hC30
   refine Ab ?_
   obtain rfl:=Aa hr5
   have hC31:=hC30.f4
   have hC32:=hC31.f4
   have hC33:=hC32.f4
   have hC34:=hC33.f3
   have hC35:=hC34.h4
   exact Am (l':=[(4,(ptr b1 0)),(5,(ptr b2 0))]) ⟨z,z,Aj⟩<|⟨x18.2.2.1,x18.2.2.2,x2,v1,x3,x18.1,x5,x6,z,z,hC35⟩
  replace hr5:=A8 hr5 hc2
  refine Ac<|BM z z z<|Ad z z<|Ab<|be hr5 fun r3 hr7 hr5=>Bi (fun l w=>∃x19:Int,∃x20:Int,∃x21:Int,∃v5:Value,∃x22:(List Int),∃x23:Int,∃x24:Int,∃x25:Int,(x19,x20,x21,x22,x23,x24,x25)=r3∧l=[(4,(ptr b1 0)),(5,(ptr b2 0))]∧Ctx Fs.flatten w0 w [Ag pb1 [u1,(I x19),(I x20)],Af v5 (x22:(List Int)),Ag b2 [(I x21),v5,(I x23),(I x24),(I x25)],Ag b1 [(I 0),(.slice none 0 0),(I 0),(I 0),(I 0)]]) ?_ ?_
  ·refine AE z (fun hc3=>?_) (fun hc3=>?_)
   ·replace hr7:=A7 hr7 hc3
    refine be hr7 fun r4 hr8 hr7=>Bi (fun l w=>∃x26:Int,∃x27:Int,∃x28:Int,∃v6:Value,∃x29:(List Int),∃x30:Int,∃x31:Int,∃x32:Int,(x26,x27,x28,x29,x30,x31,x32)=r4∧l=[(4,(ptr b1 0)),(5,(ptr b2 0))]∧Ctx Fs.flatten w0 w [Ag pb1 [u1,(I x26),(I x27)],Af v6 (x29:(List Int)),Ag b2 [(I x28),v6,(I x30),(I x31),(I x32)],Ag b1 [(I 0),(.slice none 0 0),(I 0),(I 0),(I 0)]]) ?_ ?_
    ·refine W_drawn 9 z hmix fun w16 hB9=>have hC38:=hC16.grow hB9;tf 0 AB Az z z z z z<|tm 2 z z z<|Cn (i:=1) (j:=3) (by kernel_rfl) z z ?_ ?_
     ·refine Aq hC38 2 z z AM z z<|Ab<|be hr8 fun x33 hr9 hr8=>oe 3 z<|?_
      obtain ⟨Fs4,hH4,hn4,hF4,hO4,hb4⟩:=AX (As:=[Af v1 (x3:(List Int)),Ag b2 [(I x2),v1,(I x4),(I x5),(I x6)],Ag b1 [(I 0),(.slice none 0 0),(I 0),(I 0),(I 0)]]) [Ag pb1 [u1,(I x10.2.2.1),(I x10.2.2.2)]] hC38
      refine AG Bo z z (c_S_l1Below pb1 (a1.1,x10.2.2.1,x10.2.2.2) u1 (Bf g1 hC38.keep hF4) 5 hH4 hn4 x33 hr9) ?_
      rintro _ w17 ⟨rfl,hq7⟩
      have hC39:Ctx Fs.flatten w0 w17 [Ag pb1 [u1,(I x33.2.2.1),(I x33.2.2.2)],Af v1 (x3:(List Int)),Ag b2 [(I x2),v1,(I x4),(I x5),(I x6)],Ag b1 [(I 0),(.slice none 0 0),(I 0),(I 0),(I 0)]]:=hb4 _ _ hq7
      refine Ab<|tk 4 z z (Ct z z)<|BR z z z<|Ab<|oe 5 z<|AC (vs:=[(I (w64 (x33.1 - 1)))]) hC39 Ak ty3 z z z z (fac z<|fa0) z z fun b4 w18 hC40 hB10=>?_
      have hC41:=hC40.row0 (α:=Int)
      have hC42:=hC41.triv (Bx (w64 (x33.1 - 1)))
      have hC43:=hC42.row1
      have hC44:=hC43.front 1 z
      dsimp only [List.eraseIdx,List.cons_append,List.nil_append,List.append_nil] at hC44
      have hC45:Ctx Fs.flatten w0 w18 (Af (.slice (some ⟨b4,0,none⟩) 1 1) ([w64 (x33.1 - 1)]:List Int)::[Ag pb1 [u1,(I x33.2.2.1),(I x33.2.2.2)],Af v1 (x3:(List Int)),Ag b2 [(I x2),v1,(I x4),(I x5),(I x6)],Ag b1 [(I 0),(.slice none 0 0),(I 0),(I 0),(I 0)]]):=hC44.rowOwn (by simp [maxLen])
      refine Ab<|be hr8 fun x34 hx1 hr8=>oe 6 z<|BF (α:=Int) hC45 2 z (hC45.ro 0 z) (A1 _ _) Ak ty3 z hx1 z z z fun v7 w19 hC46=>?_
      try dsimp only [List.set] at hC46
      refine Ab<|tf 7 AB Az z z z z z<|oe 8 z<|B9 (cs':=[(I x2),v7,(I x4),(I x5),(I x6)]) hC46 3 z z (B0 (hC46.ro 2 z)) z Az z z fun w20 hC47 hKp4=>?_
      try dsimp only [List.set] at hC47
      refine Ab<|dn<|?_
      obtain rfl:=Aa hr8
      have hC48:=hC47.f4
      have hC49:=hC48.f4
      have hC50:=hC49.f4
      have hC51:=hC50.f4
      have hC52:=hC51.h4
      exact Am (l':=[(4,(ptr b1 0)),(5,(ptr b2 0))]) ⟨z,z,Aj⟩<|⟨x33.2.2.1,x33.2.2.2,x2,v7,x34,x4,x5,x6,z,z,hC52⟩
     obtain ⟨x33,hr9,hr8⟩:=CD hr8
     obtain ⟨Fs4,hH4,hn4,hF4,hO4,hb4⟩:=AX (As:=[Af v1 (x3:(List Int)),Ag b2 [(I x2),v1,(I x4),(I x5),(I x6)],Ag b1 [(I 0),(.slice none 0 0),(I 0),(I 0),(I 0)]]) [Ag pb1 [u1,(I x10.2.2.1),(I x10.2.2.2)]] hC38
     refine AG Bo z z (c_S_l1Below pb1 (a1.1,x10.2.2.1,x10.2.2.2) u1 (Bf g1 hC38.keep hF4) 5 hH4 hn4 x33 hr9) ?_
     rintro _ w17 ⟨rfl,hq7⟩
     have hC39:Ctx Fs.flatten w0 w17 [Ag pb1 [u1,(I x33.2.2.1),(I x33.2.2.2)],Af v1 (x3:(List Int)),Ag b2 [(I x2),v1,(I x4),(I x5),(I x6)],Ag b1 [(I 0),(.slice none 0 0),(I 0),(I 0),(I 0)]]:=hb4 _ _ hq7
     refine Ab<|tk 4 z z (Ct z z)<|BR z z z<|Ab<|wAS (l':=[(0,(ptr pb1 0)),(4,(ptr b1 0)),(5,(ptr b2 0)),(12,(ptr pb1 0)),(13,(I x10.1)),(14,(.bool (decide (x10.1=0)))),(15,(.bool (decide (x10.1=0)))),(20,(.bool (decide (x10.1=1)))),(21,(.bool (decide (x10.1=1)))),(22,(ptr b2 1)),(24,(ptr pb1 0)),(25,(I x33.1)),(26,(I (w64 (x33.1 - 1))))]) ⟨z,z,z,z,z,z,z,z,z,z,z,z,z,Aj⟩<|Bq [⟨1,[],fun vs=>Ba v1,[]⟩,⟨5,[],fun vs=>CU ([w64 (x33.1 - 1)]:(List Int)),[]⟩] [[],[]] 3 z (by kernel_rfl) (by kernel_rfl) z ?_ ?_
     ·refine An z ?_ ?_
      ·intro w19 hB11
       refine At<|⟨_,z,?_⟩
       exact Aq (hC39.grow hB11) 2 z z AM z z<|Ab<|Aw (Al _ _) z z ⟨z,z⟩
      refine An z ?_ ?_
      ·intro w19 hB11
       refine At<|⟨_,z,?_⟩
       refine AC (vs:=[(I (w64 (x33.1 - 1)))]) (A5 w19) Ak ty3 z z z z (fac z<|fa0) z z (fun b4 w18 hC40 hB10=>?_)
       have hC41:=hC40.row0 (α:=Int)
       have hC42:=hC41.triv (Bx (w64 (x33.1 - 1)))
       have hC43:=hC42.row1
       have hC44:=hC43.front 1 z
       dsimp only [List.eraseIdx,List.cons_append,List.nil_append,List.append_nil] at hC44
       have hC45:Ctx [] w19 w18 (Af (.slice (some ⟨b4,0,none⟩) 1 1) ([w64 (x33.1 - 1)]:List Int)::[]):=hC44.rowOwn (by simp [maxLen])
       exact Ab<|Da hC45 z z (fun F h=>h)
      exact Bj
     intro w20 hB12
     refine Ar z z z ?_
     rintro _ _ ⟨rfl,rfl⟩
     refine Ar z z z fun v7 F1 hv2=>Bt fun hn5 hb5=>?_
     have hC46:=hC39.pushL hB12 (Bs:=[Af v7 ([w64 (x33.1 - 1)]:(List Int))]) (Fs:=[F1]) ⟨F1,_,z,hv2,z⟩ (by simpa using hn5) (fun b h=>(hb5 b (by simpa using h)).1)
     refine be hr8 fun x34 hx1 hr8=>oe 6 z<|BF (α:=Int) hC46 2 z (hC46.ro 0 z) (A1 _ _) Ak ty3 z hx1 z z z fun v8 w21 hC47=>?_
     try dsimp only [List.set] at hC47
     refine Ab<|tf 7 AB Az z z z z z<|oe 8 z<|B9 (cs':=[(I x2),v8,(I x4),(I x5),(I x6)]) hC47 3 z z (B0 (hC47.ro 2 z)) z Az z z fun w22 hC48 hKp4=>?_
     try dsimp only [List.set] at hC48
     refine Ab<|dn<|?_
     obtain rfl:=Aa hr8
     have hC49:=hC48.f4
     have hC50:=hC49.f4
     have hC51:=hC50.f4
     have hC52:=hC51.f4
     have hC53:=hC52.h4
     exact Am (l':=[(4,(ptr b1 0)),(5,(ptr b2 0))]) ⟨z,z,Aj⟩<|⟨x33.2.2.1,x33.2.2.2,x2,v8,x34,x4,x5,x6,z,z,hC53⟩
    rintro l4 _ w15 hs4 ⟨x26,x27,x28,v6,x29,x30,x31,x32,rfl,rfl,hC37⟩
    try dsimp only at hr7
    obtain rfl:=Aa hr7
    exact Cm (l2:=[(4,(ptr b1 0)),(5,(ptr b2 0))]) hs4 ⟨z,z,Aj⟩<|⟨x26,x27,x28,v6,x29,x30,x31,x32,z,z,hC37⟩
   replace hr7:=A8 hr7 hc3
   refine Ac<|BM z z z<|Ad z z<|Ab<|be hr7 fun r5 hr10 hr7=>Bi (fun l w=>∃x35:Int,∃x36:Int,∃x37:Int,∃v9:Value,∃x38:(List Int),∃x39:Int,∃x40:Int,∃x41:Int,(x35,x36,x37,x38,x39,x40,x41)=r5∧l=[(4,(ptr b1 0)),(5,(ptr b2 0))]∧Ctx Fs.flatten w0 w [Ag pb1 [u1,(I x35),(I x36)],Af v9 (x38:(List Int)),Ag b2 [(I x37),v9,(I x39),(I x40),(I x41)],Ag b1 [(I 0),(.slice none 0 0),(I 0),(I 0),(I 0)]]) ?_ ?_
   ·refine AE z (fun hc4=>?_) (fun hc4=>?_)
    ·replace hr10:=A7 hr10 hc4
     refine Bg<|Ae z z<|AC (vs:=[(I 0),(I 99),(I 100)]) hC16 Ak ty3 z z z z (fac z<|fac z<|fac z<|fa0) z z fun b5 w24 hC55 hB14=>?_
     have hC56:=hC55.row0 (α:=Int)
     have hC57:=hC56.triv (Bx (100))
     have hC58:=hC57.row1
     have hC59:=hC58.triv (Bx (99))
     have hC60:=hC59.row1
     have hC61:=hC60.triv (Bx (0))
     have hC62:=hC61.row1
     have hC63:=hC62.front 1 z
     dsimp only [List.eraseIdx,List.cons_append,List.nil_append,List.append_nil] at hC63
     have hC64:Ctx Fs.flatten w0 w24 (Af (.slice (some ⟨b5,0,none⟩) 3 3) ([0,99,100]:List Int)::[Ag pb1 [u1,(I x10.2.2.1),(I x10.2.2.2)],Af v1 (x3:(List Int)),Ag b2 [(I x2),v1,(I x4),(I x5),(I x6)],Ag b1 [(I 0),(.slice none 0 0),(I 0),(I 0),(I 0)]]):=hC63.rowOwn (by simp [maxLen])
     refine be hr10 fun x42 hr11 hr10=>have hC65:=hC64.f1;?_
     obtain ⟨Fs5,hH5,hn6,hF5,hO5,hb6⟩:=AX (As:=[Af (.slice (some ⟨b5,0,none⟩) 3 3) ([0,99,100]:(List Int)),Af v1 (x3:(List Int)),Ag b2 [(I x2),v1,(I x4),(I x5),(I x6)],Ag b1 [(I 0),(.slice none 0 0),(I 0),(I 0),(I 0)]]) [Ag pb1 [u1,(I x10.2.2.1),(I x10.2.2.2)]] hC65
     refine AG BS z z (c_S_l1PickInt pb1 (a1.1,x10.2.2.1,x10.2.2.2) u1 (Bf g1 hC65.keep hF5) ([0,99,100]) (.slice (some ⟨b5,0,none⟩) 3 3) (hO5 0 _ _ _ z) hH5 hn6 x42 hr11) ?_
     rintro _ w25 ⟨rfl,hq10⟩
     have hC66:Ctx Fs.flatten w0 w25 [Ag pb1 [u1,(I x42.2.2.1),(I x42.2.2.2)],Af (.slice (some ⟨b5,0,none⟩) 3 3) ([0,99,100]:(List Int)),Af v1 (x3:(List Int)),Ag b2 [(I x2),v1,(I x4),(I x5),(I x6)],Ag b1 [(I 0),(.slice none 0 0),(I 0),(I 0),(I 0)]]:=hb6 _ _ hq10
     refine fd AB Ay z z z z<|B9 (cs':=[(I x2),v1,(I x4),(I x5),(I x42.1)]) hC66 3 z z z z Ay z z fun w26 hC67 hKp5=>?_
     try dsimp only [List.set] at hC67
     refine Ab ?_
     obtain rfl:=Aa hr10
     have hC68:=hC67.f4
     have hC69:=hC68.f4
     have hC70:=hC69.f4
     have hC71:=hC70.f3
     have hC72:=hC71.h4
     exact Am (l':=[(4,(ptr b1 0)),(5,(ptr b2 0))]) ⟨z,z,Aj⟩<|⟨x42.2.2.1,x42.2.2.2,x2,v1,x3,x4,x5,x42.1,z,z,hC72⟩
    replace hr10:=A8 hr10 hc4
    refine Ac<|BM z z z<|Ad z z<|Ab<|be hr10 fun r6 hr12 hr10=>Bi (fun l w=>∃x43:Int,∃x44:Int,∃x45:Int,∃v10:Value,∃x46:(List Int),∃x47:Int,∃x48:Int,∃x49:Int,(x43,x44,x45,x46,x47,x48,x49)=r6∧l=[(4,(ptr b1 0)),(5,(ptr b2 0))]∧Ctx Fs.flatten w0 w [Ag pb1 [u1,(I x43),(I x44)],Af v10 (x46:(List Int)),Ag b2 [(I x45),v10,(I x47),(I x48),(I x49)],Ag b1 [(I 0),(.slice none 0 0),(I 0),(I 0),(I 0)]]) ?_ ?_
    ·refine AE z (fun hc5=>?_) (fun hc5=>?_)
     ·replace hr12:=A7 hr12 hc5
      refine Bg<|Ae z z<|AC (vs:=[(I (-1)),(I 99),(I 100)]) hC16 Ak ty3 z z z z (fac z<|fac z<|fac z<|fa0) z z fun b6 w28 hC74 hB16=>?_
      have hC75:=hC74.row0 (α:=Int)
      have hC76:=hC75.triv (Bx (100))
      have hC77:=hC76.row1
      have hC78:=hC77.triv (Bx (99))
      have hC79:=hC78.row1
      have hC80:=hC79.triv (Bx ((-1)))
      have hC81:=hC80.row1
      have hC82:=hC81.front 1 z
      dsimp only [List.eraseIdx,List.cons_append,List.nil_append,List.append_nil] at hC82
      have hC83:Ctx Fs.flatten w0 w28 (Af (.slice (some ⟨b6,0,none⟩) 3 3) ([(-1),99,100]:List Int)::[Ag pb1 [u1,(I x10.2.2.1),(I x10.2.2.2)],Af v1 (x3:(List Int)),Ag b2 [(I x2),v1,(I x4),(I x5),(I x6)],Ag b1 [(I 0),(.slice none 0 0),(I 0),(I 0),(I 0)]]):=hC82.rowOwn (by simp [maxLen])
      refine be hr12 fun x50 hr13 hr12=>have hC84:=hC83.f1;?_
      obtain ⟨Fs6,hH6,hn7,hF6,hO6,hb7⟩:=AX (As:=[Af (.slice (some ⟨b6,0,none⟩) 3 3) ([(-1),99,100]:(List Int)),Af v1 (x3:(List Int)),Ag b2 [(I x2),v1,(I x4),(I x5),(I x6)],Ag b1 [(I 0),(.slice none 0 0),(I 0),(I 0),(I 0)]]) [Ag pb1 [u1,(I x10.2.2.1),(I x10.2.2.2)]] hC84
      refine AG BS z z (c_S_l1PickInt pb1 (a1.1,x10.2.2.1,x10.2.2.2) u1 (Bf g1 hC84.keep hF6) ([(-1),99,100]) (.slice (some ⟨b6,0,none⟩) 3 3) (hO6 0 _ _ _ z) hH6 hn7 x50 hr13) ?_
      rintro _ w29 ⟨rfl,hq12⟩
      have hC85:Ctx Fs.flatten w0 w29 [Ag pb1 [u1,(I x50.2.2.1),(I x50.2.2.2)],Af (.slice (some ⟨b6,0,none⟩) 3 3) ([(-1),99,100]:(List Int)),Af v1 (x3:(List Int)),Ag b2 [(I x2),v1,(I x4),(I x5),(I x6)],Ag b1 [(I 0),(.slice none 0 0),(I 0),(I 0),(I 0)]]:=hb7 _ _ hq12
      refine fd AB Ay z z z z<|B9 (cs':=[(I x2),v1,(I x4),(I x50.1),(I x6)]) hC85 3 z z z z Ay z z fun w30 hC86 hKp6=>?_
      try dsimp only [List.set] at hC86
      refine Ab ?_
      obtain rfl:=Aa hr12
      have hC87:=hC86.f4
      have hC88:=hC87.f4
      have hC89:=hC88.f4
      have hC90:=hC89.f3
      have hC91:=hC90.h4
      exact Am (l':=[(4,(ptr b1 0)),(5,(ptr b2 0))]) ⟨z,z,Aj⟩<|⟨x50.2.2.1,x50.2.2.2,x2,v1,x3,x4,x50.1,x6,z,z,hC91⟩
     replace hr12:=A8 hr12 hc5
     refine AF ?_
     obtain rfl:=Aa hr12
     exact Am (l':=[(4,(ptr b1 0)),(5,(ptr b2 0))]) ⟨z,z,Aj⟩<|⟨x10.2.2.1,x10.2.2.2,x2,v1,x3,x4,x5,x6,z,z,hC16⟩
    rintro l6 _ w27 hs6 ⟨x43,x44,x45,v10,x46,x47,x48,x49,rfl,rfl,hC73⟩
    try dsimp only at hr10
    obtain rfl:=Aa hr10
    exact Cm (l2:=[(4,(ptr b1 0)),(5,(ptr b2 0))]) hs6 ⟨z,z,Aj⟩<|⟨x43,x44,x45,v10,x46,x47,x48,x49,z,z,hC73⟩
   rintro l5 _ w23 hs5 ⟨x35,x36,x37,v9,x38,x39,x40,x41,rfl,rfl,hC54⟩
   try dsimp only at hr7
   obtain rfl:=Aa hr7
   exact Cm (l2:=[(4,(ptr b1 0)),(5,(ptr b2 0))]) hs5 ⟨z,z,Aj⟩<|⟨x35,x36,x37,v9,x38,x39,x40,x41,z,z,hC54⟩
  rintro l3 _ w14 hs3 ⟨x19,x20,x21,v5,x22,x23,x24,x25,rfl,rfl,hC36⟩
  try dsimp only at hr5
  obtain rfl:=Aa hr5
  exact Cm (l2:=[(4,(ptr b1 0)),(5,(ptr b2 0))]) hs3 ⟨z,z,Aj⟩<|⟨x19,x20,x21,v5,x22,x23,x24,x25,z,z,hC36⟩
 rintro l2 _ w10 hs2 ⟨x11,x12,x13,v4,x14,x15,x16,x17,rfl,rfl,hC17⟩
 try dsimp only at hF
 refine AU<|AY hs2<|?_
 clear hs2
 refine Ac<|Au [(I x13),v4,(I x15),(I x16),(I x17)] hC17 2 z z z BQ B6 z z<|AA (cs':=[(I x13),v4,(I x15),(I x16),(I x17)]) (new:=[(I x13),v4,(I x15),(I x16),(I x17)]) hC17 3 z z (fac z<|fac (B0 (hC17.ro 1 z))<|fac z<|fac z<|fac z<|fa0) z B6 z z fun w31 hC92 hKp7=>?_
 try dsimp only [List.set] at hC92
 refine Ab (AL ?_)
 obtain rfl:=Aa hF
 refine Cq z (rv_cell_agg (cs':=[(I x13),v4,(I x15),(I x16),(I x17)]) hC92 (i:=3) z z z BQ B6 z)<|have hC94:=hC92.f1;?_
 have hC93:=own_st93 x13 v4 x14 x15 x16 x17 hC94
 have hC95:=hC93.h2
 exact ⟨_,z,_,z,hC95⟩
theorem c_S_l2AnySchema {w0:World} {Fs:List (List Nat)} (pb1:Nat) (a1:((List UInt8) × Int × Int)) (u1:Value) (g1:RO Fs.flatten w0 u1 a1.1) (hH:Hold [Ag pb1 [u1,(I a1.2.1),(I a1.2.2)]] w0 Fs) (hn:Fs.flatten.Nodup) (rr:((List Int) × ((List UInt8) × Int × Int))) (hF:S.l2AnySchema a1=some rr) :
 Calls Tryz.prog 170 [(ptr pb1 0)].toArray w0 fun e w'=>∃v,e=.returned v∧∃q0:Value,v=q0∧Ctx Fs.flatten w0 w' [Af q0 (rr.1:(List Int)),Ag pb1 [u1,(I rr.2.2.1),(I rr.2.2.2)]]:=by
 refine Ax Tryz.func170 z z ?_
 have hC0:=BE hH hn
 unfold S.l2AnySchema at hF
 refine Ac<|Ad z z<|Ab<|Ac<|Ae z z<|be hF fun x1 hr1 hF=>?_
 obtain ⟨Fs1,hH1,hn1,hF1,hO1,hb1⟩:=AX (As:=[]) [Ag pb1 [u1,(I a1.2.1),(I a1.2.2)]] hC0
 refine AG Tryz.call166 z z (c_S_l2Schema pb1 (a1.1,a1.2.1,a1.2.2) u1 (Bf g1 hC0.keep hF1) hH1 hn1 x1 hr1) ?_
 rintro v1 w1 ⟨_,rfl,hq1⟩
 have hC1:Ctx Fs.flatten w0 w1 [Af v1 (x1.1:(List Int)),Ag pb1 [u1,(I x1.2.2.1),(I x1.2.2.2)]]:=hb1 _ _ hq1
 refine Ad z z<|Ab<|A6<|Ac<|Ae z z<|be hF fun x2 hr2 hF=>have hC2:=hC1.f1;?_
 obtain ⟨Fs2,hH2,hn2,hF2,hO2,hb2⟩:=AX (As:=[Af v1 (x1.1:(List Int))]) [Ag pb1 [u1,(I x1.2.2.1),(I x1.2.2.2)]] hC2
 refine AG Co z z (c_S_l1Once pb1 (a1.1,x1.2.2.1,x1.2.2.2) u1 (Bf g1 hC2.keep hF2) 14 hH2 hn2 x2 hr2) ?_
 rintro _ w2 ⟨rfl,hq2⟩
 have hC3:Ctx Fs.flatten w0 w2 [Ag pb1 [u1,(I x2.2.2.1),(I x2.2.2.2)],Af v1 (x1.1:(List Int))]:=hb2 _ _ hq2
 refine Ab<|be hF fun r1 hr3 hF=>Bi (fun l w=>∃x3:Int,∃x4:Int,∃v2:Value,∃x5:(List Int),(x3,x4,x5)=r1∧l=[(3,v2)]∧Ctx Fs.flatten w0 w [Ag pb1 [u1,(I x3),(I x4)],Af v2 (x5:(List Int))]) ?_ ?_
 ·refine AE z (fun hc1=>?_) (fun hc1=>?_)
  ·replace hr3:=A7 hr3 hc1
   refine Bg<|Ae z z<|Ae z z<|AC (vs:=[(I 0),(I 1),(I 4)]) hC3 Ak ty3 z z z z (fac z<|fac z<|fac z<|fa0) z z fun b1 w4 hC5 hB2=>?_
   have hC6:=hC5.row0 (α:=Int)
   have hC7:=hC6.triv (Bx (4))
   have hC8:=hC7.row1
   have hC9:=hC8.triv (Bx (1))
   have hC10:=hC9.row1
   have hC11:=hC10.triv (Bx (0))
   have hC12:=hC11.row1
   have hC13:=hC12.front 1 z
   dsimp only [List.eraseIdx,List.cons_append,List.nil_append,List.append_nil] at hC13
   have hC14:Ctx Fs.flatten w0 w4 (Af (.slice (some ⟨b1,0,none⟩) 3 3) ([0,1,4]:List Int)::[Ag pb1 [u1,(I x2.2.2.1),(I x2.2.2.2)],Af v1 (x1.1:(List Int))]):=hC13.rowOwn (by simp [maxLen])
   refine be hr3 fun x6 hr4 hr3=>have hC15:=hC14.f1;?_
   obtain ⟨Fs3,hH3,hn3,hF3,hO3,hb3⟩:=AX (As:=[Af (.slice (some ⟨b1,0,none⟩) 3 3) ([0,1,4]:(List Int)),Af v1 (x1.1:(List Int))]) [Ag pb1 [u1,(I x2.2.2.1),(I x2.2.2.2)]] hC15
   refine AG BS z z (c_S_l1PickInt pb1 (a1.1,x2.2.2.1,x2.2.2.2) u1 (Bf g1 hC15.keep hF3) ([0,1,4]) (.slice (some ⟨b1,0,none⟩) 3 3) (hO3 0 _ _ _ z) hH3 hn3 x6 hr4) ?_
   rintro _ w5 ⟨rfl,hq3⟩
   have hC16:Ctx Fs.flatten w0 w5 [Ag pb1 [u1,(I x6.2.2.1),(I x6.2.2.2)],Af (.slice (some ⟨b1,0,none⟩) 3 3) ([0,1,4]:(List Int)),Af v1 (x1.1:(List Int))]:=hb3 _ _ hq3
   refine AC (vs:=[(I x6.1)]) hC16 Ak ty3 z z z z (fac z<|fa0) z z (fun b2 w6 hC17 hB3=>?_)
   have hC18:=hC17.row0 (α:=Int)
   have hC19:=hC18.triv (Bx (x6.1))
   have hC20:=hC19.row1
   have hC21:=hC20.front 1 z
   dsimp only [List.eraseIdx,List.cons_append,List.nil_append,List.append_nil] at hC21
   have hC22:Ctx Fs.flatten w0 w6 (Af (.slice (some ⟨b2,0,none⟩) 1 1) ([x6.1]:List Int)::[Ag pb1 [u1,(I x6.2.2.1),(I x6.2.2.2)],Af (.slice (some ⟨b1,0,none⟩) 3 3) ([0,1,4]:(List Int)),Af v1 (x1.1:(List Int))]):=hC21.rowOwn (by simp [maxLen])
   refine be hr3 fun x7 hx1 hr3=>BF (α:=Int) hC22 3 z (hC22.ro 0 z) (A1 _ _) Ak ty3 z hx1 z z z fun v3 w7 hC23=>?_
   try dsimp only [List.set] at hC23
   refine Ad z z<|Ab<|?_
   obtain rfl:=Aa hr3
   have hC24:=hC23.f3
   have hC25:=hC24.f2
   have hC26:=hC25.h2
   exact Am (l':=[(3,v3)]) ⟨z,Aj⟩<|⟨x6.2.2.1,x6.2.2.2,v3,x7,z,z,hC26⟩
  replace hr3:=A8 hr3 hc1
  refine AF ?_
  obtain rfl:=Aa hr3
  exact Am (l':=[(3,v1)]) ⟨z,Aj⟩<|⟨x2.2.2.1,x2.2.2.2,v1,x1.1,z,z,hC3⟩
 rintro l1 _ w3 hs1 ⟨x3,x4,v2,x5,rfl,rfl,hC4⟩
 try dsimp only at hF
 refine AY hs1 ?_
 clear hs1
 refine Ac<|Ae z z<|Ad z z<|Ab<|AL<|?_
 obtain rfl:=Aa hF
 exact A2 z z<|have hC27:=hC4.f1;⟨_,z,_,z,hC27⟩
theorem c_S_l5Draw {w0:World} {Fs:List (List Nat)} (pb1:Nat) (a1:((List UInt8) × Int × Int)) (u1:Value) (g1:RO Fs.flatten w0 u1 a1.1) (hH:Hold [Ag pb1 [u1,(I a1.2.1),(I a1.2.2)]] w0 Fs) (hn:Fs.flatten.Nodup) (rr:((List Int) × (List (Int × (List Int) × Int × Int × Int)) × (List (Int × (List Int))) × ((List UInt8) × Int × Int))) (hF:S.l5Draw a1=some rr) :
 Calls Tryz.prog 119 [(ptr pb1 0)].toArray w0 fun e w'=>∃v,e=.returned v∧∃q0:Value,∃q1:Value,∃q2:Value,v=(.tuple #[q0,q1,q2])∧Ctx Fs.flatten w0 w' [Af q0 (rr.1:(List Int)),Af q1 (rr.2.1:(List (Int × (List Int) × Int × Int × Int))),Af q2 (rr.2.2.1:(List (Int × (List Int)))),Ag pb1 [u1,(I rr.2.2.2.2.1),(I rr.2.2.2.2.2)]]:=by
 refine Ax Tryz.func119 z z ?_
 have hC0:=BE hH hn
 unfold S.l5Draw at hF
 refine Ac<|Ad z z<|Ad z z<|Ad z z<|Ab<|Ac<|Ae z z<|be hF fun x1 hr1 hF=>?_
 obtain ⟨Fs1,hH1,hn1,hF1,hO1,hb1⟩:=AX (As:=[]) [Ag pb1 [u1,(I a1.2.1),(I a1.2.2)]] hC0
 refine AG Tryz.call166 z z (c_S_l2Schema pb1 (a1.1,a1.2.1,a1.2.2) u1 (Bf g1 hC0.keep hF1) hH1 hn1 x1 hr1) ?_
 rintro v1 w1 ⟨_,rfl,hq1⟩
 have hC1:Ctx Fs.flatten w0 w1 [Af v1 (x1.1:(List Int)),Ag pb1 [u1,(I x1.2.2.1),(I x1.2.2.2)]]:=hb1 _ _ hq1
 refine Ad z z<|Ab<|Ac<|Ae z z<|Ae z z<|be hF fun x2 hr2 hF=>have hC2:=hC1.f1;?_
 obtain ⟨Fs2,hH2,hn2,hF2,hO2,hb2⟩:=AX (As:=[Af v1 (x1.1:(List Int))]) [Ag pb1 [u1,(I x1.2.2.1),(I x1.2.2.2)]] hC2
 refine AG Tryz.call167 z z (c_S_l5Methods pb1 (a1.1,x1.2.2.1,x1.2.2.2) u1 (Bf g1 hC2.keep hF2) x1.1 v1 (hO2 0 _ _ _ z) hH2 hn2 x2 hr2) ?_
 rintro v2 w2 ⟨_,rfl,hq2⟩
 have hC3:Ctx Fs.flatten w0 w2 [Af v2 (x2.1:(List (Int × (List Int) × Int × Int × Int))),Ag pb1 [u1,(I x2.2.2.1),(I x2.2.2.2)],Af v1 (x1.1:(List Int))]:=hb2 _ _ hq2
 refine Ad z z<|Ab<|Ac<|Ae z z<|Ae z z<|be hF fun x3 hr3 hF=>have hC4:=hC3.f1;?_
 obtain ⟨Fs3,hH3,hn3,hF3,hO3,hb3⟩:=AX (As:=[Af v2 (x2.1:(List (Int × (List Int) × Int × Int × Int))),Af v1 (x1.1:(List Int))]) [Ag pb1 [u1,(I x2.2.2.1),(I x2.2.2.2)]] hC4
 refine AG Tryz.call168 z z (c_S_l2Facts pb1 (a1.1,x2.2.2.1,x2.2.2.2) u1 (Bf g1 hC4.keep hF3) x1.1 v1 (hO3 1 _ _ _ z) 8 hH3 hn3 x3 hr3) ?_
 rintro v3 w3 ⟨_,rfl,hq3⟩
 have hC5:Ctx Fs.flatten w0 w3 [Af v3 (x3.1:(List (Int × (List Int)))),Ag pb1 [u1,(I x3.2.2.1),(I x3.2.2.2)],Af v2 (x2.1:(List (Int × (List Int) × Int × Int × Int))),Af v1 (x1.1:(List Int))]:=hb3 _ _ hq3
 refine Ad z z<|Ab<|A6<|Ac<|Ae z z<|be hF fun x4 hr4 hF=>have hC6:=hC5.f1;?_
 obtain ⟨Fs4,hH4,hn4,hF4,hO4,hb4⟩:=AX (As:=[Af v3 (x3.1:(List (Int × (List Int)))),Af v2 (x2.1:(List (Int × (List Int) × Int × Int × Int))),Af v1 (x1.1:(List Int))]) [Ag pb1 [u1,(I x3.2.2.1),(I x3.2.2.2)]] hC6
 refine AG Bo z z (c_S_l1Below pb1 (a1.1,x3.2.2.1,x3.2.2.2) u1 (Bf g1 hC6.keep hF4) 20 hH4 hn4 x4 hr4) ?_
 rintro _ w4 ⟨rfl,hq4⟩
 have hC7:Ctx Fs.flatten w0 w4 [Ag pb1 [u1,(I x4.2.2.1),(I x4.2.2.2)],Af v3 (x3.1:(List (Int × (List Int)))),Af v2 (x2.1:(List (Int × (List Int) × Int × Int × Int))),Af v1 (x1.1:(List Int))]:=hb4 _ _ hq4
 refine Ab<|AJ<|Ac<|BM z z z<|Ad z z<|Ab<|be hF fun r1 hr5 hF=>Bi (fun l w=>∃x5:Int,∃x6:Int,∃v4:Value,∃x7:(List Int),∃v5:Value,∃x8:(List (Int × (List Int) × Int × Int × Int)),∃v6:Value,∃x9:(List (Int × (List Int))),(x5,x6,x7,x8,x9)=r1∧l=[(5,v4),(6,v5),(7,v6)]∧Ctx Fs.flatten w0 w [Ag pb1 [u1,(I x5),(I x6)],Af v6 (x9:(List (Int × (List Int)))),Af v5 (x8:(List (Int × (List Int) × Int × Int × Int))),Af v4 (x7:(List Int))]) ?_ ?_
 ·refine AE z (fun hc1=>?_) (fun hc1=>?_)
  ·replace hr5:=A7 hr5 hc1
   refine Bg<|Ae z z<|Ae z z<|Ae z z<|be hr5 fun x10 hr6 hr5=>?_
   obtain ⟨Fs5,hH5,hn5,hF5,hO5,hb5⟩:=AX (As:=[Af v3 (x3.1:(List (Int × (List Int)))),Af v2 (x2.1:(List (Int × (List Int) × Int × Int × Int))),Af v1 (x1.1:(List Int))]) [Ag pb1 [u1,(I x4.2.2.1),(I x4.2.2.2)]] hC7
   refine AG Tryz.call169 z z (c_S_l5AnyMethod pb1 (a1.1,x4.2.2.1,x4.2.2.2) u1 (Bf g1 hC7.keep hF5) x1.1 v1 (hO5 2 _ _ _ z) hH5 hn5 x10 hr6) ?_
   rintro v7 w6 ⟨_,rfl,hq5⟩
   have hC9:Ctx Fs.flatten w0 w6 [Af v7 (x10.1:(Int × (List Int) × Int × Int × Int)),Ag pb1 [u1,(I x10.2.2.1),(I x10.2.2.2)],Af v3 (x3.1:(List (Int × (List Int)))),Af v2 (x2.1:(List (Int × (List Int) × Int × Int × Int))),Af v1 (x1.1:(List Int))]:=hb5 _ _ hq5
   obtain ⟨v8,rfl,hC10⟩:=st93_own hC9
   refine AC (vs:=[(.agg #[(I x10.1.1),v8,(I x10.1.2.2.1),(I x10.1.2.2.2.1),(I x10.1.2.2.2.2)])]) hC10 Be ty93 z z z z (fac z<|fa0) z z (fun b1 w7 hC11 hB2=>?_)
   have hC12:=hC11.row0 (α:=(Int × (List Int) × Int × Int × Int))
   have hC14:=hC12.f2
   have hC13:=own_st93 x10.1.1 v8 x10.1.2.1 x10.1.2.2.1 x10.1.2.2.2.1 x10.1.2.2.2.2 hC14
   have hC15:=hC13.row1
   have hC16:=hC15.front 1 z
   dsimp only [List.eraseIdx,List.cons_append,List.nil_append,List.append_nil] at hC16
   have hC17:Ctx Fs.flatten w0 w7 (Af (.slice (some ⟨b1,0,none⟩) 1 1) ([(x10.1.1,x10.1.2.1,x10.1.2.2.1,x10.1.2.2.2.1,x10.1.2.2.2.2)]:List (Int × (List Int) × Int × Int × Int))::[Ag pb1 [u1,(I x10.2.2.1),(I x10.2.2.2)],Af v3 (x3.1:(List (Int × (List Int)))),Af v2 (x2.1:(List (Int × (List Int) × Int × Int × Int))),Af v1 (x1.1:(List Int))]):=hC16.rowOwn (by simp [maxLen])
   refine be hr5 fun x11 hx1 hr5=>By hC17 2 z Be ty93 z hx1 z z z fun v9 w9 hC18=>?_
   try dsimp only [List.set] at hC18
   refine Ad z z<|Ab<|?_
   obtain rfl:=Aa hr5
   exact Am (l':=[(5,v1),(6,v9),(7,v3)]) ⟨z,z,z,Aj⟩<|⟨x10.2.2.1,x10.2.2.2,v1,x1.1,v9,x11,v3,x3.1,z,z,hC18⟩
  replace hr5:=A8 hr5 hc1
  refine Ac<|BM z z z<|Ad z z<|Ab<|be hr5 fun r2 hr7 hr5=>Bi (fun l w=>∃x12:Int,∃x13:Int,∃v10:Value,∃x14:(List Int),∃v11:Value,∃x15:(List (Int × (List Int))),(x12,x13,x14,x15)=r2∧l=[(5,v10),(6,v2),(7,v11)]∧Ctx Fs.flatten w0 w [Ag pb1 [u1,(I x12),(I x13)],Af v11 (x15:(List (Int × (List Int)))),Af v2 (x2.1:(List (Int × (List Int) × Int × Int × Int))),Af v10 (x14:(List Int))]) ?_ ?_
  ·refine AE z (fun hc2=>?_) (fun hc2=>?_)
   ·replace hr7:=A7 hr7 hc2
    refine Bg<|Ae z z<|Ae z z<|be hr7 fun x16 hr8 hr7=>?_
    obtain ⟨Fs6,hH6,hn6,hF6,hO6,hb6⟩:=AX (As:=[Af v3 (x3.1:(List (Int × (List Int)))),Af v2 (x2.1:(List (Int × (List Int) × Int × Int × Int))),Af v1 (x1.1:(List Int))]) [Ag pb1 [u1,(I x4.2.2.1),(I x4.2.2.2)]] hC7
    refine AG Tryz.call124 z z (c_S_l2AnyFacts pb1 (a1.1,x4.2.2.1,x4.2.2.2) u1 (Bf g1 hC7.keep hF6) x1.1 v1 (hO6 2 _ _ _ z) hH6 hn6 x16 hr8) ?_
    rintro v12 w11 ⟨_,rfl,hq7⟩
    have hC21:Ctx Fs.flatten w0 w11 [Af v12 (x16.1:(List (Int × (List Int)))),Ag pb1 [u1,(I x16.2.2.1),(I x16.2.2.2)],Af v3 (x3.1:(List (Int × (List Int)))),Af v2 (x2.1:(List (Int × (List Int) × Int × Int × Int))),Af v1 (x1.1:(List Int))]:=hb6 _ _ hq7
    refine Ad z z<|Ab<|?_
    obtain rfl:=Aa hr7
    have hC22:=hC21.f4
    have hC23:=hC22.f4
    have hC24:=hC23.f2
    have hC25:=hC24.f3
    have hC26:=hC25.h4
    exact Am (l':=[(5,v1),(6,v2),(7,v12)]) ⟨z,z,z,Aj⟩<|⟨x16.2.2.1,x16.2.2.2,v1,x1.1,v12,x16.1,z,z,hC26⟩
   replace hr7:=A8 hr7 hc2
   refine Ac<|BM z z z<|Ad z z<|Ab<|be hr7 fun r3 hr9 hr7=>Bi (fun l w=>∃x17:Int,∃x18:Int,∃v13:Value,∃x19:(List Int),(x17,x18,x19)=r3∧l=[(5,v13),(6,v2),(7,v3)]∧Ctx Fs.flatten w0 w [Ag pb1 [u1,(I x17),(I x18)],Af v3 (x3.1:(List (Int × (List Int)))),Af v2 (x2.1:(List (Int × (List Int) × Int × Int × Int))),Af v13 (x19:(List Int))]) ?_ ?_
   ·refine AE z (fun hc3=>?_) (fun hc3=>?_)
    ·replace hr9:=A7 hr9 hc3
     refine Bg<|Ae z z<|be hr9 fun x20 hr10 hr9=>?_
     obtain ⟨Fs7,hH7,hn7,hF7,hO7,hb7⟩:=AX (As:=[Af v3 (x3.1:(List (Int × (List Int)))),Af v2 (x2.1:(List (Int × (List Int) × Int × Int × Int))),Af v1 (x1.1:(List Int))]) [Ag pb1 [u1,(I x4.2.2.1),(I x4.2.2.2)]] hC7
     refine AG Tryz.call170 z z (c_S_l2AnySchema pb1 (a1.1,x4.2.2.1,x4.2.2.2) u1 (Bf g1 hC7.keep hF7) hH7 hn7 x20 hr10) ?_
     rintro v14 w13 ⟨_,rfl,hq9⟩
     have hC28:Ctx Fs.flatten w0 w13 [Af v14 (x20.1:(List Int)),Ag pb1 [u1,(I x20.2.2.1),(I x20.2.2.2)],Af v3 (x3.1:(List (Int × (List Int)))),Af v2 (x2.1:(List (Int × (List Int) × Int × Int × Int))),Af v1 (x1.1:(List Int))]:=hb7 _ _ hq9
     refine Ad z z<|Ab<|?_
     obtain rfl:=Aa hr9
     have hC29:=hC28.f3
     have hC30:=hC29.f3
     have hC31:=hC30.f3
     have hC32:=hC31.h4
     exact Am (l':=[(5,v14),(6,v2),(7,v3)]) ⟨z,z,z,Aj⟩<|⟨x20.2.2.1,x20.2.2.2,v14,x20.1,z,z,hC32⟩
    replace hr9:=A8 hr9 hc3
    refine AF ?_
    obtain rfl:=Aa hr9
    exact Am (l':=[(5,v1),(6,v2),(7,v3)]) ⟨z,z,z,Aj⟩<|⟨x4.2.2.1,x4.2.2.2,v1,x1.1,z,z,hC7⟩
   rintro l3 _ w12 hs3 ⟨x17,x18,v13,x19,rfl,rfl,hC27⟩
   try dsimp only at hr7
   obtain rfl:=Aa hr7
   exact Cm (l2:=[(5,v13),(6,v2),(7,v3)]) hs3 ⟨z,z,z,Aj⟩<|⟨x17,x18,v13,x19,v3,x3.1,z,z,hC27⟩
  rintro l2 _ w10 hs2 ⟨x12,x13,v10,x14,v11,x15,rfl,rfl,hC20⟩
  try dsimp only at hr5
  obtain rfl:=Aa hr5
  exact Cm (l2:=[(5,v10),(6,v2),(7,v11)]) hs2 ⟨z,z,z,Aj⟩<|⟨x12,x13,v10,x14,v2,x2.1,v11,x15,z,z,hC20⟩
 rintro l1 _ w5 hs1 ⟨x5,x6,v4,x7,v5,x8,v6,x9,rfl,rfl,hC8⟩
 try dsimp only at hF
 refine AU<|AY hs1<|?_
 clear hs1
 refine Ac<|Ae z z<|Ae z z<|Ae z z<|Ad z z<|Ad z z<|Ad z z<|Ab<|AL<|?_
 obtain rfl:=Aa hF
 exact CG z z z z<|have hC33:=hC8.f1;have hC34:=hC33.f2;have hC35:=hC34.f3;⟨_,z,_,_,_,z,hC35⟩
theorem c_S_l5Access {w0:World} {Fs:List (List Nat)} (pb1:Nat) (a1:((List UInt8) × Int × Int)) (u1:Value) (g1:RO Fs.flatten w0 u1 a1.1) (a2:(List (Int × (List Int) × Int × Int × Int))) (u2:Value) (g2:RO Fs.flatten w0 u2 a2) (hH:Hold [Ag pb1 [u1,(I a1.2.1),(I a1.2.2)]] w0 Fs) (hn:Fs.flatten.Nodup) (rr:((Int × (List Int)) × ((List UInt8) × Int × Int))) (hF:S.l5Access a1 a2=some rr) :
 Calls Tryz.prog 121 [(ptr pb1 0),u2].toArray w0 fun e w'=>∃v,e=.returned v∧∃q0:Value,v=q0∧Ctx Fs.flatten w0 w' [Af q0 (rr.1:(Int × (List Int))),Ag pb1 [u1,(I rr.2.2.1),(I rr.2.2.2)]]:=by
 refine Ax Tryz.func121 z z ?_
 have hC0:=BE hH hn
 unfold S.l5Access at hF
 refine Ac<|Bw hC0 zero44 z z fun b1 w1 hC1 hB1 hN1=>Ab<|A6<|Ac<|Ae z z<|Bc Be g2 z z<|BM z z z<|Ab<|AE z (fun hc1=>?_) (fun hc1=>?_)
 ·replace hF:=A7 hF hc1
  refine Ac<|BH (vs:=[]) z z z built44<|AA (cs':=[(I 0),(.slice none 0 0)]) (new:=[(I 0),(.slice none 0 0)]) hC1 0 z z (fac z<|fac z<|fa0) z AV z z fun w2 hC2 hKp1=>?_
  try dsimp only [List.set] at hC2
  have hk1:=AO (Ao hB1) hN1 hKp1
  refine Ab (AL (Av ?_))
  obtain rfl:=Aa hF
  refine Cq z (rv_cell_agg (cs':=[(I 0),(.slice none 0 0)]) hC2 (i:=0) z z z Bu AV z)<|have hC3:=hC2.f1;?_
  have hC5:=hC3.triv (nil_val (α:=Int))
  have hC4:=own_st44 0 (.slice none 0 0) ([]) hC5
  have hC6:=hC4.h2
  exact ⟨_,z,_,z,hC6⟩
 replace hF:=A8 hF hc1
 refine AF<|Ap<|Ac<|Ae z z<|Ae z z<|Bc Be g2 z z<|be hF fun x1 hr1 hF=>have hC7:=hC1.f1;?_
 obtain ⟨Fs1,hH1,hn1,hF1,hO1,hb1⟩:=AX (As:=[Ag b1 [(I 0),(.slice none 0 0)]]) [Ag pb1 [u1,(I a1.2.1),(I a1.2.2)]] hC7
 refine AG Bo z z (c_S_l1Below pb1 (a1.1,a1.2.1,a1.2.2) u1 (Bf g1 hC7.keep hF1) (List.length a2:Int) hH1 hn1 x1 hr1) ?_
 rintro _ w3 ⟨rfl,hq2⟩
 have hC8:Ctx Fs.flatten w0 w3 [Ag pb1 [u1,(I x1.2.2.1),(I x1.2.2.2)],Ag b1 [(I 0),(.slice none 0 0)]]:=hb1 _ _ hq2
 refine BH (vs:=[(0,(I x1.1))]) z z z (built44_0 z)<|Bw hC8 zero44 z z fun b2 w4 hC9 hB2 hN2=>AA (cs':=[(I x1.1),(.slice none 0 0)]) (new:=[(I x1.1),(.slice none 0 0)]) hC9 0 z z (fac z<|fac z<|fa0) z AV z z fun w5 hC10 hKp2=>?_
 try dsimp only [List.set] at hC10
 have hk2:=AO (Ao hB2) hN2 hKp2
 refine Ab<|A6<|Ac<|Ad z z<|Ab<|be hF fun r1 hr2 hF=>Bi (fun l w=>∃x7:Int,∃v2:Value,∃x8:(List Int),∃x9:Int,∃x10:Int,(x7,x8,x9,x10)=r1∧l=[(4,(ptr b1 0)),(5,(ptr b2 0))]∧Ctx Fs.flatten w0 w [Af v2 (x8:(List Int)),Ag b2 [(I x7),v2],Ag pb1 [u1,(I x9),(I x10)],Ag b1 [(I 0),(.slice none 0 0)]]) ?_ ?_
 ·refine AJ ?_
  have hC27:=hC10.triv (nil_val (α:=Int))
  refine wS (l':=[(0,(ptr pb1 0)),(1,u2),(4,(ptr b1 0)),(5,(ptr b2 0)),(6,(I 0))]) ⟨z,z,z,z,z,Aj⟩<|B2 (fun k l w=>∃x2:Int,∃v1:Value,∃x3:(List Int),∃x4:Int,∃x5:Int,∃x6:Int,l=[(0,(ptr pb1 0)),(1,u2),(4,(ptr b1 0)),(5,(ptr b2 0)),(6,(I x6))]∧Ctx Fs.flatten w0 w [Af v1 (x3:(List Int)),Ag b2 [(I x2),v1],Ag pb1 [u1,(I x4),(I x5)],Ag b1 [(I 0),(.slice none 0 0)]]∧S.l5Access_l1 a2 a1 k x2 x3 x4 x5 x6=some r1) FUEL ⟨x1.1,(.slice none 0 0),[],x1.2.2.1,x1.2.2.2,0,z,hC27,hr2⟩<|?_
  clear hr2
  rintro k1 _ w6 ⟨x2,v1,x3,x4,x5,x6,rfl,hC11,hL1⟩
  cases k1 with
  | zero=>rw [S.l5Access_l1] at hL1; cases hL1
  | succ k1 =>
   rw [S.l5Access_l1] at hL1
   refine A6<|Ac<|Ae z z<|Ae z z<|fd AQ Ay z z z z<|Aq hC11 1 z z AR z z<|be hL1 fun x11 hx1 hL1=>AH Be ty93 g2 hx1 z z z fun b3 o1 h1=>fd AB Az z z z z<|AI ty24 h1.snd.fst hC11.keep z z fun v3 h2=>Bc Ak h2 z z<|Bv z z z<|Ab<|AE z (fun hc2=>?_) (fun hc2=>?_)
   ·replace hL1:=A7 hL1 hc2
    refine AF<|Ap<|A6<|AJ<|Ac<|Ae z z<|be hL1 fun x12 hr3 hL1=>have hC12:=hC11.f2;?_
    obtain ⟨Fs2,hH2,hn2,hF2,hO2,hb2⟩:=AX (As:=[Af v1 (x3:(List Int)),Ag b2 [(I x2),v1],Ag b1 [(I 0),(.slice none 0 0)]]) [Ag pb1 [u1,(I x4),(I x5)]] hC12
    refine AG Bo z z (c_S_l1Below pb1 (a1.1,x4,x5) u1 (Bf g1 hC12.keep hF2) 4 hH2 hn2 x12 hr3) ?_
    rintro _ w7 ⟨rfl,hq3⟩
    have hC13:Ctx Fs.flatten w0 w7 [Ag pb1 [u1,(I x12.2.2.1),(I x12.2.2.2)],Af v1 (x3:(List Int)),Ag b2 [(I x2),v1],Ag b1 [(I 0),(.slice none 0 0)]]:=hb2 _ _ hq3
    refine Ad z z<|Ab<|Bg<|fd AQ Az z z z z<|Aq hC13 2 z z AM z z<|Ae z z<|AC (vs:=[(I x12.1)]) hC13 Ak ty3 z z z z (fac z<|fa0) z z fun b4 w9 hC14 hB4=>?_
    have hC15:=hC14.row0 (α:=Int)
    have hC16:=hC15.triv (Bx (x12.1))
    have hC17:=hC16.row1
    have hC18:=hC17.front 1 z
    dsimp only [List.eraseIdx,List.cons_append,List.nil_append,List.append_nil] at hC18
    have hC19:Ctx Fs.flatten w0 w9 (Af (.slice (some ⟨b4,0,none⟩) 1 1) ([x12.1]:List Int)::[Ag pb1 [u1,(I x12.2.2.1),(I x12.2.2.2)],Af v1 (x3:(List Int)),Ag b2 [(I x2),v1],Ag b1 [(I 0),(.slice none 0 0)]]):=hC18.rowOwn (by simp [maxLen])
    refine be hL1 fun x13 hx2 hL1=>BF (α:=Int) hC19 2 z (hC19.ro 0 z) (A1 _ _) Ak ty3 z hx2 z z z fun v4 w10 hC20=>?_
    try dsimp only [List.set] at hC20
    refine fd AQ Az z z z z<|B9 (cs':=[(I x2),v4]) hC20 3 z z (B0 (hC20.ro 2 z)) z Az z z fun w11 hC21 hKp3=>?_
    try dsimp only [List.set] at hC21
    exact Ab<|AU<|Ap<|Bg<|Ae z z<|Bn z z z<|Ad z z<|Ab<|have hC22:=hC21.f4;have hC23:=hC22.f2;have hC24:=hC23.f4;have hC25:=hC24.f4;have hC26:=hC25.h4;Am (l':=[(0,(ptr pb1 0)),(1,u2),(4,(ptr b1 0)),(5,(ptr b2 0)),(6,(I (w64 (x6+1))))]) ⟨z,z,z,z,z,Aj⟩<|⟨k1,A3 _,x2,v4,x13,x12.2.2.1,x12.2.2.2,w64 (x6+1),z,hC26,hL1⟩
   replace hL1:=A8 hL1 hc2
   refine B1 (A9 (A9 (Bk ?_)))
   obtain rfl:=Aa hL1
   exact Am (l':=[(4,(ptr b1 0)),(5,(ptr b2 0))]) ⟨z,z,Aj⟩<|⟨x2,v1,x3,x4,x5,z,z,hC11⟩
 rintro l2 _ w12 hs2 ⟨x7,v2,x8,x9,x10,rfl,rfl,hC28⟩
 try dsimp only at hF
 refine AY hs2 ?_
 clear hs2
 refine Ac<|Au [(I x7),v2] hC28 1 z z z Bu AV z z<|AA (cs':=[(I x7),v2]) (new:=[(I x7),v2]) hC28 3 z z (fac z<|fac (B0 (hC28.ro 0 z))<|fa0) z AV z z fun w13 hC29 hKp4=>?_
 try dsimp only [List.set] at hC29
 refine Ab (AL ?_)
 obtain rfl:=Aa hF
 refine Cq z (rv_cell_agg (cs':=[(I x7),v2]) hC29 (i:=3) z z z Bu AV z)<|have hC30:=hC29.f2;have hC32:=hC30.f1;?_
 have hC31:=own_st44 x7 v2 x8 hC32
 have hC33:=hC31.h2
 exact ⟨_,z,_,z,hC33⟩
theorem c_S_l5Fits {w0:World} (a1:(Int × (List Int) × Int × Int × Int)) (u1:Value) (g1:RO [] w0 u1 a1.2.1) (a2:(List Int)) (u2:Value) (g2:RO [] w0 u2 a2) (a3:(Int × (List Int))) (u3:Value) (g3:RO [] w0 u3 a3.2) (rr:Bool) (hF:S.l5Fits a1 a2 a3=some rr) :
 Calls Tryz.prog 92 [(.agg #[(I a1.1),u1,(I a1.2.2.1),(I a1.2.2.2.1),(I a1.2.2.2.2)]),u2,(.agg #[(I a3.1),u3])].toArray w0 fun e w'=>∃v,e=.returned v∧Res w0 rr v w':=by
 refine Ax Tryz.func92 z z ?_
 have hC0:=A5 w0
 unfold S.l5Fits at hF
 refine Ac<|Br (cs:=[(I a1.1),u1,(I a1.2.2.1),(I a1.2.2.2.1),(I a1.2.2.2.2)]) hC0 z z z fun b1 w1 hC1 hB1 hN1=>Br (cs:=[(I a3.1),u3]) hC1 z z z fun b2 w2 hC2 hB2 hN2=>Ad z z<|Ab<|A6<|Ac<|fd A4 Ay z z z z<|Aq hC2 0 z z AR z z<|fd AB Ay z z z z<|Aq hC2 1 z z AR z z<|Ch z z z<|Ab<|AE z (fun hc1=>?_) (fun hc1=>?_)
 ·replace hF:=A7 hF hc1
  refine Ac<|Ad z z<|Ab<|AL<|Av<|?_
  obtain rfl:=Aa hF
  exact A2 z z<|⟨_,z,AN hC2 _⟩
 replace hF:=A8 hF hc1
 refine AF<|Ap<|A6<|Ac<|Ad z z<|Ab<|be hF fun r1 hr1 hF=>Bi (fun l w=>.inl ()=r1∧l=[]∧Below w2.heap.size w2 w∧Ctx [] w0 w []) ?_ ?_
 ·refine AJ<|wS (l':=[(1,u2),(3,(ptr b1 0)),(5,(ptr b2 0)),(7,(I 0))]) ⟨z,z,z,z,Aj⟩<|B2 (fun k l w=>∃x1:Int,l=[(1,u2),(3,(ptr b1 0)),(5,(ptr b2 0)),(7,(I x1))]∧Below w2.heap.size w2 w∧Ctx [] w0 w [Ag b2 [(I a3.1),u3],Ag b1 [(I a1.1),u1,(I a1.2.2.1),(I a1.2.2.2.1),(I a1.2.2.2.2)]]∧S.l5Fits_l1 a1 a2 a3 k x1=some r1) FUEL ⟨0,z,(Al _ _),hC2,hr1⟩<|?_
  clear hr1
  rintro k1 _ w3 ⟨x1,rfl,hB3,hC3,hL1⟩
  cases k1 with
  | zero=>rw [S.l5Fits_l1] at hL1; cases hL1
  | succ k1 =>
   rw [S.l5Fits_l1] at hL1
   refine A6<|Ac<|Ae z z<|fd AB Az z z z z<|Aq hC3 1 z z AM z z<|Bc Ak g1 z z<|Bv z z z<|Ab<|AE z (fun hc2=>?_) (fun hc2=>?_)
   ·replace hL1:=A7 hL1 hc2
    refine AF<|Ap<|A6<|AJ<|A6<|W_drawn 14 z hmix fun w4 hB4=>have hC4:=hC3.grow hB4;tf 0 A4 Az z z z z z<|tf 2 AB Az z z z z z<|tm 4 z z z<|tm 9 z z z<|tm 10 z z z<|be hL1 fun x2 hx1 hL1=>tk 11 z z (BG Ak ty3 g2 hx1 z z)<|AH Ak ty3 g2 hx1 z z z fun b3 o1 h1=>Ab<|be hL1 fun x3 hx2 hL1=>be hL1 fun x4 hx3 hL1=>wAS (l':=[(1,u2),(3,(ptr b1 0)),(5,(ptr b2 0)),(7,(I x1)),(13,(I x1)),(14,(ptr b1 1)),(15,u1),(16,(I (List.length a1.2.1:Int))),(17,(.bool (decide (x1 < (List.length a1.2.1:Int))))),(20,(ptr b2 1)),(22,(ptr b1 1)),(24,(I x1)),(29,u2),(30,(I x1)),(31,(ptr b3 o1))]) ⟨z,z,z,z,z,z,z,z,z,z,z,z,z,z,z,Aj⟩<|Bq [⟨1,[],fun vs=>Ba u3,[]⟩,⟨3,[],fun vs=>Ba u1,[]⟩,⟨5,[],fun vs=>BZ [] w0 x3,[]⟩,⟨6,[],fun vs=>Ba (I x3),[]⟩,⟨7,[],fun vs=>BZ [] w0 x4,[]⟩,⟨8,[],fun vs=>Ba (I x4),[]⟩,⟨12,[],fun vs=>Ba (I x2),[]⟩] [[],[],[3],[5],[1,6],[7],[]] 1 z (by kernel_rfl) (by kernel_rfl) z ?_ ?_
    ·refine An z ?_ ?_
     ·intro w5 hB5
      refine At<|⟨_,z,?_⟩
      exact Aq (hC4.grow hB5) 0 z z AM z z<|Ab<|Aw (Al _ _) z z ⟨z,z⟩
     refine An z ?_ ?_
     ·intro w5 hB5
      refine At<|⟨_,z,?_⟩
      exact Aq (hC4.grow hB5) 1 z z AM z z<|Ab<|Aw (Al _ _) z z ⟨z,z⟩
     refine An z ?_ ?_
     ·intro w5 hB5
      refine AD z z z ?_
      rintro _ _ ⟨rfl,rfl⟩ _
      refine At<|⟨_,z,?_⟩
      exact AH Ak ty3 g1 hx2 z z z fun b4 o2 h2=>Ab<|Aw (Al _ _) z z ⟨z,_,_,z,h2⟩
     refine An z ?_ ?_
     ·intro w5 hB5
      refine AD z z z ?_
      rintro _ _ ⟨rfl,b4,o2,rfl,h2⟩ _
      refine At<|⟨_,z,?_⟩
      refine AI ty3 h2 (hC4.keep.then hB5) z z (fun v1 h3=>?_)
      obtain rfl:=B8 h3
      exact Ab<|Aw (Al _ _) z z ⟨z,z⟩
     refine An z ?_ ?_
     ·intro w5 hB5
      refine AD z z z ?_
      rintro _ _ ⟨rfl,rfl⟩ _
      refine AD z z z ?_
      rintro _ _ ⟨rfl,rfl⟩ _
      refine At<|⟨_,z,?_⟩
      exact AH Ak ty3 g3 hx3 z z z fun b5 o3 h4=>Ab<|Aw (Al _ _) z z ⟨z,_,_,z,h4⟩
     refine An z ?_ ?_
     ·intro w5 hB5
      refine AD z z z ?_
      rintro _ _ ⟨rfl,b5,o3,rfl,h4⟩ _
      refine At<|⟨_,z,?_⟩
      refine AI ty3 h4 (hC4.keep.then hB5) z z (fun v2 h5=>?_)
      obtain rfl:=B8 h5
      exact Ab<|Aw (Al _ _) z z ⟨z,z⟩
     refine An z ?_ ?_
     ·intro w5 hB5
      refine At<|⟨_,z,?_⟩
      refine AI ty3 h1 (hC4.keep.then hB5) z z (fun v3 h6=>?_)
      obtain rfl:=B8 h6
      exact Ab<|Aw (Al _ _) z z ⟨z,z⟩
     exact Bj
    intro w6 hB6
    refine Ar z z z ?_
    rintro _ _ ⟨rfl,rfl⟩
    refine Ar z z z ?_
    rintro _ _ ⟨rfl,rfl⟩
    refine Ar z z z ?_
    rintro _ _ ⟨rfl,b4,o2,rfl,h2⟩
    refine Ar z z z ?_
    rintro _ _ ⟨rfl,rfl⟩
    refine Ar z z z ?_
    rintro _ _ ⟨rfl,b5,o3,rfl,h4⟩
    refine Ar z z z ?_
    rintro _ _ ⟨rfl,rfl⟩
    refine Ar z z z ?_
    rintro _ _ ⟨rfl,rfl⟩
    refine Bt fun hn1 hb1=>have hC5:=hC4.grow hB6;tk 13 z z (De z z)<|Ch z z z<|Ab<|dn<|Ap<|AE z (fun hc3=>?_) (fun hc3=>?_)
    ·replace hL1:=A7 hL1 hc3
     refine Ac<|Ad z z<|Ab<|AL<|Bd<|Av<|Av<|Bd<|Av<|Av<|?_
     obtain rfl:=Aa hL1
     dsimp only at hF
     obtain rfl:=Aa hF
     exact A2 z z<|⟨_,z,AN hC5 _⟩
    replace hL1:=A8 hL1 hc3
    exact AF<|AU<|Ap<|Bg<|Ae z z<|Bn z z z<|Ad z z<|Ab<|Am (l':=[(1,u2),(3,(ptr b1 0)),(5,(ptr b2 0)),(7,(I (w64 (x1+1))))]) ⟨z,z,z,z,Aj⟩<|⟨k1,A3 _,w64 (x1+1),z,(((Ao hB3).then hB4).then hB6).below,hC5,hL1⟩
   replace hL1:=A8 hL1 hc2
   refine B1 (A9 (A9 (Bk ?_)))
   obtain rfl:=Aa hL1
   have hC6:=hC3.h0
   exact Am (l':=[]) Aj<|⟨z,z,(Ao hB3).below,hC6⟩
 rintro l2 _ w7 hs2 ⟨rfl,rfl,hB7,hC7⟩
 try dsimp only at hF
 refine AY hs2 ?_
 clear hs2
 refine Ac<|Ad z z<|Ab<|AL<|?_
 obtain rfl:=Aa hF
 exact A2 z z<|⟨_,z,AN hC7 _⟩
theorem c_S_l5Matches {w0:World} (a1:(Int × (List Int) × Int × Int × Int)) (u1:Value) (g1:RO [] w0 u1 a1.2.1) (a2:(List Int)) (u2:Value) (g2:RO [] w0 u2 a2) (a3:(List (Int × (List Int)))) (u3:Value) (g3:RO [] w0 u3 a3) (rr:(List (Int × (List Int)))) (hF:S.l5Matches a1 a2 a3=some rr) :
 Calls Tryz.prog 80 [(.agg #[(I a1.1),u1,(I a1.2.2.1),(I a1.2.2.2.1),(I a1.2.2.2.2)]),u2,u3].toArray w0 fun e w'=>∃v,e=.returned v∧Res w0 rr v w':=by
 refine Ax Tryz.func80 z z ?_
 have hC0:=A5 w0
 unfold S.l5Matches at hF
 refine Ac<|Br (cs:=[(I a1.1),u1,(I a1.2.2.1),(I a1.2.2.2.1),(I a1.2.2.2.2)]) hC0 z z z fun b1 w1 hC1 hB1 hN1=>Ad z z<|Ab<|Ac<|AC (vs:=[]) hC1 Ai ty88 z z z z (by simp) z z fun b2 w2 hC2 hB2=>?_
 have hC3:=hC2.row0 (α:=(Int × (List Int)))
 have hC4:=hC3.front 1 z
 dsimp only [List.eraseIdx,List.cons_append,List.nil_append,List.append_nil] at hC4
 have hC5:Ctx [] w0 w2 (Af (.slice (some ⟨b2,0,none⟩) 0 0) (([]:List (Int × (List Int))):List (Int × (List Int)))::[Ag b1 [(I a1.1),u1,(I a1.2.2.1),(I a1.2.2.2.1),(I a1.2.2.2.2)]]):=hC4.rowOwn (by simp [maxLen])
 refine Ad z z<|Ab<|A6<|Ac<|Ad z z<|Ab<|be hF fun r1 hr1 hF=>Bi (fun l w=>∃v2:Value,∃x3:(List (Int × (List Int))),x3=r1∧l=[(7,v2)]∧Ctx [] w0 w [Af v2 (x3:(List (Int × (List Int))))]) ?_ ?_
 ·refine AJ<|wS (l':=[(1,u2),(2,u3),(3,(ptr b1 0)),(7,(.slice (some ⟨b2,0,none⟩) 0 0)),(8,(I 0))]) ⟨z,z,z,z,z,Aj⟩<|B2 (fun k l w=>∃v1:Value,∃x1:(List (Int × (List Int))),∃x2:Int,l=[(1,u2),(2,u3),(3,(ptr b1 0)),(7,v1),(8,(I x2))]∧Ctx [] w0 w [Af v1 (x1:(List (Int × (List Int)))),Ag b1 [(I a1.1),u1,(I a1.2.2.1),(I a1.2.2.2.1),(I a1.2.2.2.2)]]∧S.l5Matches_l1 a3 a1 a2 k x1 x2=some r1) FUEL ⟨(.slice (some ⟨b2,0,none⟩) 0 0),([]:List (Int × (List Int))),0,z,hC5,hr1⟩<|?_
  clear hr1
  rintro k1 _ w3 ⟨v1,x1,x2,rfl,hC6,hL1⟩
  cases k1 with
  | zero=>rw [S.l5Matches_l1] at hL1; cases hL1
  | succ k1 =>
   rw [S.l5Matches_l1] at hL1
   refine A6<|Ac<|Ae z z<|Ae z z<|Bc Ai g3 z z<|Bv z z z<|Ab<|AE z (fun hc1=>?_) (fun hc1=>?_)
   ·replace hL1:=A7 hL1 hc1
    refine AF<|Ap<|A6<|AJ<|A6<|W_drawn 7 z hmix fun w4 hB4=>have hC7:=hC6.grow hB4;tm 1 z z z<|tm 2 z z z<|tm 3 z z z<|be hL1 fun x4 hx1 hL1=>tk 4 z z (BG Ai ty88 g3 hx1 z z)<|AH Ai ty88 g3 hx1 z z z fun b3 o1 h1=>Ab<|wAS (l':=[(1,u2),(2,u3),(3,(ptr b1 0)),(7,v1),(8,(I x2)),(10,(I x2)),(11,u3),(12,(I (List.length a3:Int))),(13,(.bool (decide (x2 < (List.length a3:Int))))),(17,u2),(18,u3),(19,(I x2)),(20,(ptr b3 o1))]) ⟨z,z,z,z,z,z,z,z,z,z,z,z,z,Aj⟩<|Bq [⟨0,[],fun vs=>Ba (.agg #[(I a1.1),u1,(I a1.2.2.1),(I a1.2.2.2.1),(I a1.2.2.2.2)]),[]⟩,⟨5,[],fun vs=>Ce [] w0 x4,[]⟩] [[],[]] 1 z (by kernel_rfl) (by kernel_rfl) z ?_ ?_
    ·refine An z ?_ ?_
     ·intro w5 hB5
      refine At<|⟨_,z,?_⟩
      exact Au [(I a1.1),u1,(I a1.2.2.1),(I a1.2.2.2.1),(I a1.2.2.2.2)] (hC7.grow hB5) 1 z z z BQ B6 z z<|Ab<|Aw (Al _ _) z z ⟨z,z⟩
     refine An z ?_ ?_
     ·intro w5 hB5
      refine At<|⟨_,z,?_⟩
      exact AI ty88 h1 (hC7.keep.then hB5) z z fun v5 h4=>Ab<|Aw (Al _ _) z z ⟨z,h4⟩
     exact Bj
    intro w6 hB6
    refine Ar z z z ?_
    rintro _ _ ⟨rfl,rfl⟩
    refine Ar z z z ?_
    rintro v5 _ ⟨rfl,h4⟩
    obtain ⟨v4,rfl,h3⟩:=BD h4
    refine Bt fun hn1 hb1=>have hC8:=hC7.grow hB6;be hL1 fun x5 hr2 hL1=>oe 6 z<|cb CV z z (c_S_l5Fits (a1.1,a1.2.1,a1.2.2.1,a1.2.2.2.1,a1.2.2.2.2) u1 (g1.now hC8.keep) a2 u2 (g2.now hC8.keep) x4 v4 (h3.now hC8.keep) x5 hr2) fun w7 hB7=>have hC9:=hC8.grow hB7;Ab<|dn<|Ap<|be hL1 fun r2 hr3 hL1=>Bi (fun l w=>∃v6:Value,∃x6:(List (Int × (List Int))),x6=r2∧l=[(1,u2),(2,u3),(3,(ptr b1 0)),(7,v6),(8,(I x2))]∧Ctx [] w0 w [Af v6 (x6:(List (Int × (List Int)))),Ag b1 [(I a1.1),u1,(I a1.2.2.1),(I a1.2.2.2.1),(I a1.2.2.2.2)]]) ?_ ?_
    ·refine AE z (fun hc2=>?_) (fun hc2=>?_)
     ·replace hr3:=A7 hr3 hc2
      refine W_drawn 15 z hmix fun w10 hB9=>have hC11:=hC9.grow hB9;tm 0 z z z<|tm 1 z z z<|tm 2 z z z<|be hr3 fun x7 hx2 hr3=>tk 3 z z (BG Ai ty88 g3 hx2 z z)<|AH Ai ty88 g3 hx2 z z z fun b4 o2 h5=>Ab<|tf 4 A4 Ay z z z z z<|tm 6 z z z<|tm 7 z z z<|be hr3 fun x8 hx3 hr3=>tk 8 z z (BG Ai ty88 g3 hx3 z z)<|AH Ai ty88 g3 hx3 z z z fun b5 o3 h6=>Ab<|tf 9 A4 Az z z z z z<|wAS (l':=[(1,u2),(2,u3),(3,(ptr b1 0)),(7,v1),(8,(I x2)),(10,(I x2)),(11,u3),(12,(I (List.length a3:Int))),(13,(.bool (decide (x2 < (List.length a3:Int))))),(16,(.agg #[(I a1.1),u1,(I a1.2.2.1),(I a1.2.2.2.1),(I a1.2.2.2.2)])),(17,u2),(18,u3),(19,(I x2)),(20,(ptr b3 o1)),(21,(.agg #[(I x4.1),v4])),(22,(.bool x5)),(23,v1),(24,u3),(25,(I x2)),(26,(ptr b4 o2)),(27,(ptr b4 (o2+0))),(29,u3),(30,(I x2)),(31,(ptr b5 o3)),(32,(ptr b5 (o3+1)))]) ⟨z,z,z,z,z,z,z,z,z,z,z,z,z,z,z,z,z,z,z,z,z,z,z,z,z,Aj⟩<|Bq [⟨5,[],fun vs=>Ba (I x7.1),[]⟩,⟨10,[],fun vs=>Ce [] w0 x8.2,[]⟩] [[],[]] 4 z (by kernel_rfl) (by kernel_rfl) z ?_ ?_
      ·refine An z ?_ ?_
       ·intro w11 hB10
        refine At<|⟨_,z,?_⟩
        refine AI ty3 h5.fst (hC11.keep.then hB10) z z (fun v7 h7=>?_)
        obtain rfl:=B8 h7
        exact Ab<|Aw (Al _ _) z z ⟨z,z⟩
       refine An z ?_ ?_
       ·intro w11 hB10
        refine At<|⟨_,z,?_⟩
        exact AI ty24 h6.snd (hC11.keep.then hB10) z z fun v8 h8=>Ab<|Aw (Al _ _) z z ⟨z,h8⟩
       exact Bj
      intro w12 hB11
      refine Ar z z z ?_
      rintro _ _ ⟨rfl,rfl⟩
      refine Ar z z z ?_
      rintro v8 _ ⟨rfl,h8⟩
      refine Bt fun hn2 hb2=>have hC12:=hC11.grow hB11;be hr3 fun x9 hr4 hr3=>oe 11 z<|AG CF z z (c_S_l2One x7.1 x8.2 v8 (h8.now hC12.keep) x9 hr4)<|?_
      rintro v9 w13 ⟨hB12,F1,hv2,hn3,hb3⟩
      have hC13:=hC12.push hB12 (A:=Af v9 x9) hv2 hn3 hb3
      obtain ⟨v10,rfl,hC14⟩:=st88_own hC13
      refine Ab<|oe 12 z<|AC (vs:=[(.agg #[(I x9.1),v10])]) hC14 Ai ty88 z z z z (fac z<|fa0) z z fun b6 w14 hC15 hB13=>?_
      have hC16:=hC15.row0 (α:=(Int × (List Int)))
      have hC18:=hC16.f2
      have hC17:=Cc x9.1 v10 x9.2 hC18
      have hC19:=hC17.row1
      have hC20:=hC19.front 1 z
      dsimp only [List.eraseIdx,List.cons_append,List.nil_append,List.append_nil] at hC20
      have hC21:Ctx [] w0 w14 (Af (.slice (some ⟨b6,0,none⟩) 1 1) ([(x9.1,x9.2)]:List (Int × (List Int)))::[Af v1 (x1:(List (Int × (List Int)))),Ag b1 [(I a1.1),u1,(I a1.2.2.1),(I a1.2.2.2.1),(I a1.2.2.2.2)]]):=hC20.rowOwn (by simp [maxLen])
      refine Ab<|be hr3 fun x10 hx4 hr3=>oe 13 z<|By hC21 0 z Ai ty88 z hx4 z z z fun v11 w15 hC22=>?_
      try dsimp only [List.set] at hC22
      refine Ab<|ta 14 z z z<|dn<|?_
      obtain rfl:=Aa hr3
      exact Am (l':=[(1,u2),(2,u3),(3,(ptr b1 0)),(7,v11),(8,(I x2))]) ⟨z,z,z,z,z,Aj⟩<|⟨v11,x10,z,z,hC22⟩
     replace hr3:=A8 hr3 hc2
     refine AF ?_
     obtain rfl:=Aa hr3
     exact Am (l':=[(1,u2),(2,u3),(3,(ptr b1 0)),(7,v1),(8,(I x2))]) ⟨z,z,z,z,z,Aj⟩<|⟨v1,x1,z,z,hC9⟩
    rintro l2 _ w9 hs2 ⟨v6,x6,rfl,rfl,hC10⟩
    try dsimp only at hL1
    refine AU<|AY hs2<|?_
    clear hs2
    exact Bg<|Ae z z<|Bn z z z<|Ad z z<|Ab<|Am (l':=[(1,u2),(2,u3),(3,(ptr b1 0)),(7,v6),(8,(I (w64 (x2+1))))]) ⟨z,z,z,z,z,Aj⟩<|⟨k1,A3 _,v6,x6,w64 (x2+1),z,hC10,hL1⟩
   replace hL1:=A8 hL1 hc1
   refine B1 (A9 (A9 (Bk ?_)))
   obtain rfl:=Aa hL1
   have hC24:=hC6.h1
   exact Am (l':=[(7,v1)]) ⟨z,Aj⟩<|⟨v1,x1,z,z,hC24⟩
 rintro l3 _ w16 hs3 ⟨v2,x3,rfl,rfl,hC25⟩
 try dsimp only at hF
 refine AY hs3 ?_
 clear hs3
 refine Ac<|Ae z z<|Ad z z<|Ab<|AL<|?_
 obtain rfl:=Aa hF
 exact A2 z z<|⟨_,z,BY hC25 0 z⟩
theorem c_S_IsAccess {w0:World} (a1:(List Int)) (u1:Value) (g1:RO [] w0 u1 a1) (a2:(List (Int × (List Int) × Int × Int × Int))) (u2:Value) (g2:RO [] w0 u2 a2) (a3:(Int × (List Int))) (u3:Value) (g3:RO [] w0 u3 a3.2) (rr:Bool) (hF:S.IsAccess a1 a2 a3=some rr) :
 Calls Tryz.prog 100 [u1,u2,(.agg #[(I a3.1),u3])].toArray w0 fun e w'=>∃v,e=.returned v∧Res w0 rr v w':=by
 refine Ax Tryz.func100 z z ?_
 have hC0:=A5 w0
 unfold S.IsAccess at hF
 refine Ac<|Br (cs:=[(I a3.1),u3]) hC0 z z z fun b1 w1 hC1 hB1 hN1=>Ad z z<|Ab<|A6<|be hF fun r1 hr1 hF=>BI (fun l w=>∃x1:Bool,x1=r1∧l=[(5,(ptr b1 0)),(33,(.bool x1))]∧Below w1.heap.size w1 w∧Ctx [] w0 w [Ag b1 [(I a3.1),u3]]) ?_ ?_
 ·refine W_drawn 26 z hmix fun w3 hB3=>have hC3:=hC1.grow hB3;tm 0 z z z<|tm 1 z z z<|be hr1 fun x2 hr2 hr1=>oe 2 z<|cb Cw z z (c_S_AreMethods a1 u1 (g1.now hC3.keep) a2 u2 (g2.now hC3.keep) x2 hr2) fun w4 hB4=>have hC4:=hC3.grow hB4;Ab<|tk 3 z z (Cl z)<|B3 z z<|Ab<|tm 4 z z z<|BC (fun hc1=>?_) (fun hc1=>?_)
  ·replace hr1:=A7 hr1 hc1
   refine sk 5 z z z z z<|sk 6 z z z z z<|sk 7 z z z z z<|sk 8 z z z z z<|sk 9 z z z z z<|sk 10 z z z z z<|sk 11 z z z z z<|tp 12 z z z z<|tm 13 z z z<|sk 14 z z z z z<|sk 15 z z z z z<|sk 16 z z z z z<|sk 17 z z z z z<|sk 18 z z z z z<|sk 19 z z z z z<|sk 20 z z z z z<|sk 21 z z z z z<|sk 22 z z z z z<|sk 23 z z z z z<|sk 24 z z z z z<|tp 25 z z z z<|dn<|?_
   obtain rfl:=Aa hr1
   exact Am (l':=[(5,(ptr b1 0)),(33,(.bool true))]) ⟨z,z,Aj⟩<|⟨true,z,z,((Ao hB3).then hB4).below,hC4⟩
  replace hr1:=A8 hr1 hc1
  refine tg 5 z z z z (BB AQ z z (fun w=>⟨_,Ay w⟩) z)<|Ah z z<|fd AQ Ay z z z z<|Ab<|tn 7 z z z z z<|tg 8 z z z z (Df Be g2 z)<|Ah z z<|Bc Be g2 z z<|Ab<|tg 9 z z z z (Ct z z)<|Ah z z<|BR z z z<|Ab<|oe 6 z<|Ah z z<|Aq hC4 0 z z AR z z<|Ab<|be hr1 fun x3 hr3 hr1=>oe 10 z<|Ah z z<|cb BL z z (c_S_l1In a3.1 0 (w64 ((List.length a2:Int) - 1)) x3 hr3) fun w5 hB5=>have hC5:=hC4.grow hB5;Ab<|tg 11 z z z z (Cl z)<|Ah z z<|B3 z z<|Ab<|tq 12 z z z z<|tm 13 z z z<|BC (fun hc2=>?_) (fun hc2=>?_)
  ·replace hr1:=A7 hr1 hc2
   refine sk 14 z z z z z<|sk 15 z z z z z<|sk 16 z z z z z<|sk 17 z z z z z<|sk 18 z z z z z<|sk 19 z z z z z<|sk 20 z z z z z<|sk 21 z z z z z<|sk 22 z z z z z<|sk 23 z z z z z<|sk 24 z z z z z<|tp 25 z z z z<|dn<|?_
   obtain rfl:=Aa hr1
   exact Am (l':=[(5,(ptr b1 0)),(33,(.bool true))]) ⟨z,z,Aj⟩<|⟨true,z,z,(((Ao hB3).then hB4).then hB5).below,hC5⟩
  replace hr1:=A8 hr1 hc2
  refine tg 14 z z z z (BB AQ z z (fun w=>⟨_,Az w⟩) z)<|Ah z z<|fd AQ Az z z z z<|Ab<|tn 17 z z z z z<|tg 18 z z z z (BB AQ z z (fun w=>⟨_,Ay w⟩) z)<|Ah z z<|fd AQ Ay z z z z<|Ab<|be hr1 fun x4 hx1 hr1=>wAS (l':=[(0,u1),(1,u2),(2,(.agg #[(I a3.1),u3])),(5,(ptr b1 0)),(6,(.bool false)),(8,u1),(9,u2),(10,(.bool x2)),(11,(.bool (!x2))),(12,(.bool false)),(13,(ptr b1 0)),(14,(I a3.1)),(15,u2),(16,(I (List.length a2:Int))),(17,(I (w64 ((List.length a2:Int) - 1)))),(18,(.bool x3)),(19,(.bool (!x3))),(20,(.bool (!x3))),(21,(.bool false)),(22,(ptr b1 1)),(25,u2),(26,(ptr b1 0))]) ⟨z,z,z,z,z,z,z,z,z,z,z,z,z,z,z,z,z,z,z,z,z,z,Aj⟩<|Bq [⟨15,[],fun vs=>Ba u3,[]⟩,⟨16,[],fun vs=>Ba (I (List.length a3.2:Int)),[]⟩,⟨19,[],fun vs=>Ba (I a3.1),[]⟩,⟨20,[],fun vs=>BZ [] w0 x4,[]⟩,⟨21,[],fun vs=>BZ [] w0 x4.2.1,[]⟩,⟨22,[],fun vs=>Ce [] w0 x4.2.1,[]⟩,⟨23,[],fun vs=>Ba (I (List.length x4.2.1:Int)),[]⟩] [[],[15],[],[19],[20],[21],[22]] 2 z (by kernel_rfl) (by kernel_rfl) z ?_ ?_
  ·refine An z ?_ ?_
   ·intro w6 hB6
    refine At<|⟨_,z,?_⟩
    exact Ah z z<|Aq (hC5.grow hB6) 0 z z AM z z<|Ab<|Aw (Al _ _) z z ⟨z,z⟩
   refine An z ?_ ?_
   ·intro w6 hB6
    refine AD z z z ?_
    rintro _ _ ⟨rfl,rfl⟩ _
    refine At<|⟨_,z,?_⟩
    exact Ah z z<|Bc Ak g3 z z<|Ab<|Aw (Al _ _) z z ⟨z,z⟩
   refine An z ?_ ?_
   ·intro w6 hB6
    refine At<|⟨_,z,?_⟩
    exact Ah z z<|Aq (hC5.grow hB6) 0 z z AR z z<|Ab<|Aw (Al _ _) z z ⟨z,z⟩
   refine An z ?_ ?_
   ·intro w6 hB6
    refine AD z z z ?_
    rintro _ _ ⟨rfl,rfl⟩ _
    refine At<|⟨_,z,?_⟩
    exact Ah z z<|AH Be ty93 g2 hx1 z z z fun b2 o1 h1=>Ab<|Aw (Al _ _) z z ⟨z,_,_,z,h1⟩
   refine An z ?_ ?_
   ·intro w6 hB6
    refine AD z z z ?_
    rintro _ _ ⟨rfl,b2,o1,rfl,h1⟩ _
    refine At<|⟨_,z,?_⟩
    exact Ah z z<|fd AB Az z z z z<|Ab<|Aw (Al _ _) z z ⟨z,_,_,z,h1.snd.fst⟩
   refine An z ?_ ?_
   ·intro w6 hB6
    refine AD z z z ?_
    rintro _ _ ⟨rfl,b3,o2,rfl,h2⟩ _
    refine At<|⟨_,z,?_⟩
    exact Ah z z<|AI ty24 h2 (hC5.keep.then hB6) z z fun v1 h3=>Ab<|Aw (Al _ _) z z ⟨z,h3⟩
   refine An z ?_ ?_
   ·intro w6 hB6
    refine AD z z z ?_
    rintro v1 _ ⟨rfl,h3⟩ _
    refine At<|⟨_,z,?_⟩
    exact Ah z z<|Bc Ak h3 z z<|Ab<|Aw (Al _ _) z z ⟨z,z⟩
   exact Bj
  intro w7 hB7
  refine Ar z z z ?_
  rintro _ _ ⟨rfl,rfl⟩
  refine Ar z z z ?_
  rintro _ _ ⟨rfl,rfl⟩
  refine Ar z z z ?_
  rintro _ _ ⟨rfl,rfl⟩
  refine Ar z z z ?_
  rintro _ _ ⟨rfl,b2,o1,rfl,h1⟩
  refine Ar z z z ?_
  rintro _ _ ⟨rfl,b3,o2,rfl,h2⟩
  refine Ar z z z ?_
  rintro v1 _ ⟨rfl,h3⟩
  refine Ar z z z ?_
  rintro _ _ ⟨rfl,rfl⟩
  refine Bt fun hn1 hb1=>have hC6:=hC5.grow hB7;tg 24 z z z z (De z z)<|Ah z z<|Ch z z z<|Ab<|tq 25 z z z z<|dn<|?_
  obtain rfl:=Aa hr1
  exact Am (l':=[(5,(ptr b1 0)),(33,(.bool (!decide ((List.length a3.2:Int)=(List.length x4.2.1:Int)))))]) ⟨z,z,Aj⟩<|⟨(!decide ((List.length a3.2:Int)=(List.length x4.2.1:Int))),z,z,((((Ao hB3).then hB4).then hB5).then hB7).below,hC6⟩
 rintro _ w2 ⟨x1,rfl,rfl,hB2,hC2⟩
 try dsimp only at hF
 refine AE z (fun hc3=>?_) (fun hc3=>?_)
 ·replace hF:=A7 hF hc3
  refine Ac<|Ad z z<|Ab<|AL<|Av<|?_
  obtain rfl:=Aa hF
  exact A2 z z<|⟨_,z,AN hC2 _⟩
 replace hF:=A8 hF hc3
 refine AF<|Ap<|A6<|Ac<|Ad z z<|Ab<|be hF fun r2 hr4 hF=>Bi (fun l w=>.inl ()=r2∧l=[]∧Below w2.heap.size w2 w∧Ctx [] w0 w []) ?_ ?_
 ·refine AJ<|wS (l':=[(5,(ptr b1 0)),(7,(I 0))]) ⟨z,z,Aj⟩<|B2 (fun k l w=>∃x5:Int,l=[(5,(ptr b1 0)),(7,(I x5))]∧Below w2.heap.size w2 w∧Ctx [] w0 w [Ag b1 [(I a3.1),u3]]∧S.IsAccess_l1 a3 k x5=some r2) FUEL ⟨0,z,(Al _ _),hC2,hr4⟩<|?_
  clear hr4
  rintro k1 _ w9 ⟨x5,rfl,hB8,hC7,hL1⟩
  cases k1 with
  | zero=>rw [S.IsAccess_l1] at hL1; cases hL1
  | succ k1 =>
   rw [S.IsAccess_l1] at hL1
   refine A6<|Ac<|Ae z z<|fd AQ Az z z z z<|Aq hC7 0 z z AM z z<|Bc Ak g3 z z<|Bv z z z<|Ab<|AE z (fun hc4=>?_) (fun hc4=>?_)
   ·replace hL1:=A7 hL1 hc4
    refine AF<|Ap<|A6<|AJ<|Ac<|fd AQ Az z z z z<|Aq hC7 0 z z AM z z<|Ae z z<|be hL1 fun x6 hx2 hL1=>AH Ak ty3 g3 hx2 z z z fun b4 o3 h4=>AI ty3 h4 hC7.keep z z fun v2 h5=>?_
    obtain rfl:=B8 h5
    refine be hL1 fun x7 hr5 hL1=>cb BL z z (c_S_l1In x6 0 9 x7 hr5) fun w10 hB9=>have hC8:=hC7.grow hB9;B3 z z<|Ab<|AE z (fun hc5=>?_) (fun hc5=>?_)
    ·replace hL1:=A7 hL1 hc5
     refine Ac<|Ad z z<|Ab<|AL<|Bd<|Av<|Av<|Bd<|Av<|Av<|?_
     obtain rfl:=Aa hL1
     dsimp only at hF
     obtain rfl:=Aa hF
     exact A2 z z<|⟨_,z,AN hC8 _⟩
    replace hL1:=A8 hL1 hc5
    exact AF<|AU<|Ap<|Bg<|Ae z z<|Bn z z z<|Ad z z<|Ab<|Am (l':=[(5,(ptr b1 0)),(7,(I (w64 (x5+1))))]) ⟨z,z,Aj⟩<|⟨k1,A3 _,w64 (x5+1),z,((Ao hB8).then hB9).below,hC8,hL1⟩
   replace hL1:=A8 hL1 hc4
   refine B1 (A9 (A9 (Bk ?_)))
   obtain rfl:=Aa hL1
   have hC9:=hC7.h0
   exact Am (l':=[]) Aj<|⟨z,z,(Ao hB8).below,hC9⟩
 rintro l3 _ w11 hs3 ⟨rfl,rfl,hB10,hC10⟩
 try dsimp only at hF
 refine AY hs3 ?_
 clear hs3
 refine Ac<|Ad z z<|Ab<|AL<|?_
 obtain rfl:=Aa hF
 exact A2 z z<|⟨_,z,AN hC10 _⟩
theorem c_S_IsFact {w0:World} (a1:(List Int)) (u1:Value) (g1:RO [] w0 u1 a1) (a2:(Int × (List Int))) (u2:Value) (g2:RO [] w0 u2 a2.2) (rr:Bool) (hF:S.IsFact a1 a2=some rr) :
 Calls Tryz.prog 139 [u1,(.agg #[(I a2.1),u2])].toArray w0 fun e w'=>∃v,e=.returned v∧Res w0 rr v w':=by
 refine Ax Tryz.func139 z z ?_
 have hC0:=A5 w0
 unfold S.IsFact at hF
 refine Ac<|Br (cs:=[(I a2.1),u2]) hC0 z z z fun b1 w1 hC1 hB1 hN1=>Ad z z<|Ab<|A6<|be hF fun r1 hr1 hF=>BI (fun l w=>∃x1:Bool,x1=r1∧l=[(3,(ptr b1 0)),(28,(.bool x1))]∧Below w1.heap.size w1 w∧Ctx [] w0 w [Ag b1 [(I a2.1),u2]]) ?_ ?_
 ·refine W_drawn 23 z hmix fun w3 hB3=>have hC3:=hC1.grow hB3;tm 0 z z z<|be hr1 fun x2 hr2 hr1=>oe 1 z<|cb BX z z (c_S_IsSchema a1 u1 (g1.now hC3.keep) x2 hr2) fun w4 hB4=>have hC4:=hC3.grow hB4;Ab<|tk 2 z z (Cl z)<|B3 z z<|Ab<|tm 3 z z z<|BC (fun hc1=>?_) (fun hc1=>?_)
  ·replace hr1:=A7 hr1 hc1
   refine sk 4 z z z z z<|sk 5 z z z z z<|sk 6 z z z z z<|sk 7 z z z z z<|sk 8 z z z z z<|sk 9 z z z z z<|sk 10 z z z z z<|tp 11 z z z z<|tm 12 z z z<|sk 13 z z z z z<|sk 14 z z z z z<|sk 15 z z z z z<|sk 16 z z z z z<|sk 17 z z z z z<|sk 18 z z z z z<|sk 19 z z z z z<|sk 20 z z z z z<|sk 21 z z z z z<|tp 22 z z z z<|dn<|?_
   obtain rfl:=Aa hr1
   exact Am (l':=[(3,(ptr b1 0)),(28,(.bool true))]) ⟨z,z,Aj⟩<|⟨true,z,z,((Ao hB3).then hB4).below,hC4⟩
  replace hr1:=A8 hr1 hc1
  refine tg 4 z z z z (BB A4 z z (fun w=>⟨_,Ay w⟩) z)<|Ah z z<|fd A4 Ay z z z z<|Ab<|tn 6 z z z z z<|tg 7 z z z z (Df Ak g1 z)<|Ah z z<|Bc Ak g1 z z<|Ab<|tg 8 z z z z (Ct z z)<|Ah z z<|BR z z z<|Ab<|oe 5 z<|Ah z z<|Aq hC4 0 z z AR z z<|Ab<|be hr1 fun x3 hr3 hr1=>oe 9 z<|Ah z z<|cb BL z z (c_S_l1In a2.1 0 (w64 ((List.length a1:Int) - 1)) x3 hr3) fun w5 hB5=>have hC5:=hC4.grow hB5;Ab<|tg 10 z z z z (Cl z)<|Ah z z<|B3 z z<|Ab<|tq 11 z z z z<|tm 12 z z z<|BC (fun hc2=>?_) (fun hc2=>?_)
  ·replace hr1:=A7 hr1 hc2
   refine sk 13 z z z z z<|sk 14 z z z z z<|sk 15 z z z z z<|sk 16 z z z z z<|sk 17 z z z z z<|sk 18 z z z z z<|sk 19 z z z z z<|sk 20 z z z z z<|sk 21 z z z z z<|tp 22 z z z z<|dn<|?_
   obtain rfl:=Aa hr1
   exact Am (l':=[(3,(ptr b1 0)),(28,(.bool true))]) ⟨z,z,Aj⟩<|⟨true,z,z,(((Ao hB3).then hB4).then hB5).below,hC5⟩
  replace hr1:=A8 hr1 hc2
  refine tg 13 z z z z (BB A4 z z (fun w=>⟨_,Az w⟩) z)<|Ah z z<|fd A4 Az z z z z<|Ab<|tn 16 z z z z z<|tg 17 z z z z (BB A4 z z (fun w=>⟨_,Ay w⟩) z)<|Ah z z<|fd A4 Ay z z z z<|Ab<|be hr1 fun x4 hx1 hr1=>wAS (l':=[(0,u1),(1,(.agg #[(I a2.1),u2])),(3,(ptr b1 0)),(4,(.bool false)),(6,u1),(7,(.bool x2)),(8,(.bool (!x2))),(9,(.bool false)),(10,(ptr b1 0)),(11,(I a2.1)),(12,u1),(13,(I (List.length a1:Int))),(14,(I (w64 ((List.length a1:Int) - 1)))),(15,(.bool x3)),(16,(.bool (!x3))),(17,(.bool (!x3))),(18,(.bool false)),(19,(ptr b1 1)),(22,u1),(23,(ptr b1 0))]) ⟨z,z,z,z,z,z,z,z,z,z,z,z,z,z,z,z,z,z,z,z,Aj⟩<|Bq [⟨14,[],fun vs=>Ba u2,[]⟩,⟨15,[],fun vs=>Ba (I (List.length a2.2:Int)),[]⟩,⟨18,[],fun vs=>Ba (I a2.1),[]⟩,⟨19,[],fun vs=>BZ [] w0 x4,[]⟩,⟨20,[],fun vs=>Ba (I x4),[]⟩] [[],[14],[],[18],[19]] 2 z (by kernel_rfl) (by kernel_rfl) z ?_ ?_
  ·refine An z ?_ ?_
   ·intro w6 hB6
    refine At<|⟨_,z,?_⟩
    exact Ah z z<|Aq (hC5.grow hB6) 0 z z AM z z<|Ab<|Aw (Al _ _) z z ⟨z,z⟩
   refine An z ?_ ?_
   ·intro w6 hB6
    refine AD z z z ?_
    rintro _ _ ⟨rfl,rfl⟩ _
    refine At<|⟨_,z,?_⟩
    exact Ah z z<|Bc Ak g2 z z<|Ab<|Aw (Al _ _) z z ⟨z,z⟩
   refine An z ?_ ?_
   ·intro w6 hB6
    refine At<|⟨_,z,?_⟩
    exact Ah z z<|Aq (hC5.grow hB6) 0 z z AR z z<|Ab<|Aw (Al _ _) z z ⟨z,z⟩
   refine An z ?_ ?_
   ·intro w6 hB6
    refine AD z z z ?_
    rintro _ _ ⟨rfl,rfl⟩ _
    refine At<|⟨_,z,?_⟩
    exact Ah z z<|AH Ak ty3 g1 hx1 z z z fun b2 o1 h1=>Ab<|Aw (Al _ _) z z ⟨z,_,_,z,h1⟩
   refine An z ?_ ?_
   ·intro w6 hB6
    refine AD z z z ?_
    rintro _ _ ⟨rfl,b2,o1,rfl,h1⟩ _
    refine At<|⟨_,z,?_⟩
    refine Ah z z<|AI ty3 h1 (hC5.keep.then hB6) z z fun v1 h2=>?_
    obtain rfl:=B8 h2
    exact Ab<|Aw (Al _ _) z z ⟨z,z⟩
   exact Bj
  intro w7 hB7
  refine Ar z z z ?_
  rintro _ _ ⟨rfl,rfl⟩
  refine Ar z z z ?_
  rintro _ _ ⟨rfl,rfl⟩
  refine Ar z z z ?_
  rintro _ _ ⟨rfl,rfl⟩
  refine Ar z z z ?_
  rintro _ _ ⟨rfl,b2,o1,rfl,h1⟩
  refine Ar z z z ?_
  rintro _ _ ⟨rfl,rfl⟩
  refine Bt fun hn1 hb1=>have hC6:=hC5.grow hB7;tg 21 z z z z (De z z)<|Ah z z<|Ch z z z<|Ab<|tq 22 z z z z<|dn<|?_
  obtain rfl:=Aa hr1
  exact Am (l':=[(3,(ptr b1 0)),(28,(.bool (!decide ((List.length a2.2:Int)=x4))))]) ⟨z,z,Aj⟩<|⟨(!decide ((List.length a2.2:Int)=x4)),z,z,((((Ao hB3).then hB4).then hB5).then hB7).below,hC6⟩
 rintro _ w2 ⟨x1,rfl,rfl,hB2,hC2⟩
 try dsimp only at hF
 refine AE z (fun hc3=>?_) (fun hc3=>?_)
 ·replace hF:=A7 hF hc3
  refine Ac<|Ad z z<|Ab<|AL<|Av<|?_
  obtain rfl:=Aa hF
  exact A2 z z<|⟨_,z,AN hC2 _⟩
 replace hF:=A8 hF hc3
 refine AF<|Ap<|A6<|Ac<|Ad z z<|Ab<|be hF fun r2 hr4 hF=>Bi (fun l w=>.inl ()=r2∧l=[]∧Below w2.heap.size w2 w∧Ctx [] w0 w []) ?_ ?_
 ·refine AJ<|wS (l':=[(3,(ptr b1 0)),(5,(I 0))]) ⟨z,z,Aj⟩<|B2 (fun k l w=>∃x5:Int,l=[(3,(ptr b1 0)),(5,(I x5))]∧Below w2.heap.size w2 w∧Ctx [] w0 w [Ag b1 [(I a2.1),u2]]∧S.IsFact_l1 a2 k x5=some r2) FUEL ⟨0,z,(Al _ _),hC2,hr4⟩<|?_
  clear hr4
  rintro k1 _ w9 ⟨x5,rfl,hB8,hC7,hL1⟩
  cases k1 with
  | zero=>rw [S.IsFact_l1] at hL1; cases hL1
  | succ k1 =>
   rw [S.IsFact_l1] at hL1
   refine A6<|Ac<|Ae z z<|fd A4 Az z z z z<|Aq hC7 0 z z AM z z<|Bc Ak g2 z z<|Bv z z z<|Ab<|AE z (fun hc4=>?_) (fun hc4=>?_)
   ·replace hL1:=A7 hL1 hc4
    refine AF<|Ap<|A6<|AJ<|Ac<|fd A4 Az z z z z<|Aq hC7 0 z z AM z z<|Ae z z<|be hL1 fun x6 hx2 hL1=>AH Ak ty3 g2 hx2 z z z fun b3 o2 h3=>AI ty3 h3 hC7.keep z z fun v2 h4=>?_
    obtain rfl:=B8 h4
    refine be hL1 fun x7 hr5 hL1=>cb BL z z (c_S_l1In x6 0 9 x7 hr5) fun w10 hB9=>have hC8:=hC7.grow hB9;B3 z z<|Ab<|AE z (fun hc5=>?_) (fun hc5=>?_)
    ·replace hL1:=A7 hL1 hc5
     refine Ac<|Ad z z<|Ab<|AL<|Bd<|Av<|Av<|Bd<|Av<|Av<|?_
     obtain rfl:=Aa hL1
     dsimp only at hF
     obtain rfl:=Aa hF
     exact A2 z z<|⟨_,z,AN hC8 _⟩
    replace hL1:=A8 hL1 hc5
    exact AF<|AU<|Ap<|Bg<|Ae z z<|Bn z z z<|Ad z z<|Ab<|Am (l':=[(3,(ptr b1 0)),(5,(I (w64 (x5+1))))]) ⟨z,z,Aj⟩<|⟨k1,A3 _,w64 (x5+1),z,((Ao hB8).then hB9).below,hC8,hL1⟩
   replace hL1:=A8 hL1 hc4
   refine B1 (A9 (A9 (Bk ?_)))
   obtain rfl:=Aa hL1
   have hC9:=hC7.h0
   exact Am (l':=[]) Aj<|⟨z,z,(Ao hB8).below,hC9⟩
 rintro l3 _ w11 hs3 ⟨rfl,rfl,hB10,hC10⟩
 try dsimp only at hF
 refine AY hs3 ?_
 clear hs3
 refine Ac<|Ad z z<|Ab<|AL<|?_
 obtain rfl:=Aa hF
 exact A2 z z<|⟨_,z,AN hC10 _⟩
theorem c_S_AreFacts {w0:World} (a1:(List Int)) (u1:Value) (g1:RO [] w0 u1 a1) (a2:(List (Int × (List Int)))) (u2:Value) (g2:RO [] w0 u2 a2) (rr:Bool) (hF:S.AreFacts a1 a2=some rr) :
 Calls Tryz.prog 101 [u1,u2].toArray w0 fun e w'=>∃v,e=.returned v∧Res w0 rr v w':=by
 refine Ax Tryz.func101 z z ?_
 have hC0:=A5 w0
 unfold S.AreFacts at hF
 refine Ac<|Ad z z<|Ab<|A6<|Ac<|Ad z z<|Ab<|be hF fun r1 hr1 hF=>Bi (fun l w=>.inl ()=r1∧l=[(0,u1),(1,u2)]∧Below w0.heap.size w0 w∧Ctx [] w0 w []) ?_ ?_
 ·refine AJ<|wS (l':=[(0,u1),(1,u2),(5,(I 0))]) ⟨z,z,z,Aj⟩<|B2 (fun k l w=>∃x1:Int,l=[(0,u1),(1,u2),(5,(I x1))]∧Below w0.heap.size w0 w∧Ctx [] w0 w []∧S.AreFacts_l1 a2 a1 k x1=some r1) FUEL ⟨0,z,(Al _ _),hC0,hr1⟩<|?_
  clear hr1
  rintro k1 _ w1 ⟨x1,rfl,hB1,hC1,hL1⟩
  cases k1 with
  | zero=>rw [S.AreFacts_l1] at hL1; cases hL1
  | succ k1 =>
   rw [S.AreFacts_l1] at hL1
   refine A6<|Ac<|Ae z z<|Ae z z<|Bc Ai g2 z z<|Bv z z z<|Ab<|AE z (fun hc1=>?_) (fun hc1=>?_)
   ·replace hL1:=A7 hL1 hc1
    refine AF<|Ap<|A6<|AJ<|be hL1 fun r2 hr2 hL1=>BI (fun l w=>∃x2:Bool,x2=r2∧l=[(0,u1),(1,u2),(5,(I x1)),(35,(.bool x2))]∧Below w1.heap.size w1 w∧Ctx [] w0 w []) ?_ ?_
    ·refine W_drawn 24 z hmix fun w3 hB3=>have hC3:=hC1.grow hB3;tm 0 z z z<|tm 1 z z z<|tm 2 z z z<|be hr2 fun x3 hx1 hr2=>tk 3 z z (BG Ai ty88 g2 hx1 z z)<|AH Ai ty88 g2 hx1 z z z fun b1 o1 h1=>Ab<|oe 4 z<|AI ty88 h1 hC3.keep z z fun v1 h2=>?_
     obtain ⟨v2,rfl,h3⟩:=BD h2
     refine Ab<|be hr2 fun x4 hr3 hr2=>oe 5 z<|cb Tryz.call139 z z (c_S_IsFact a1 u1 (g1.now hC3.keep) x3 v2 (h3.now hC3.keep) x4 hr3) fun w4 hB4=>have hC4:=hC3.grow hB4;Ab<|tk 6 z z (Cl z)<|B3 z z<|Ab<|tm 7 z z z<|BC (fun hc2=>?_) (fun hc2=>?_)
     ·replace hr2:=A7 hr2 hc2
      refine sk 8 z z z z z<|sk 9 z z z z z<|sk 10 z z z z z<|sk 11 z z z z z<|sk 12 z z z z z<|sk 13 z z z z z<|sk 14 z z z z z<|sk 15 z z z z z<|sk 16 z z z z z<|sk 17 z z z z z<|sk 18 z z z z z<|sk 19 z z z z z<|sk 20 z z z z z<|sk 21 z z z z z<|sk 22 z z z z z<|tp 23 z z z z<|dn<|?_
      obtain rfl:=Aa hr2
      exact Am (l':=[(0,u1),(1,u2),(5,(I x1)),(35,(.bool true))]) ⟨z,z,z,z,Aj⟩<|⟨true,z,z,((Ao hB3).then hB4).below,hC4⟩
     replace hr2:=A8 hr2 hc2
     refine tn 8 z z z z z<|tg 9 z z z z (Dd z z)<|Ah z z<|Ca z z z<|Ab<|tn 10 z z z z z<|BC (fun hc3=>?_) (fun hc3=>?_)
     ·replace hr2:=A7 hr2 hc3
      refine tn 11 z z z z z<|tn 12 z z z z z<|tg 13 z z z z (Ct z z)<|Ah z z<|BR z z z<|Ab<|be hr2 fun x5 hx2 hr2=>tg 14 z z z z (BG Ai ty88 g2 hx2 z z)<|Ah z z<|AH Ai ty88 g2 hx2 z z z fun b2 o2 h4=>Ab<|tn 16 z z z z z<|tn 17 z z z z z<|be hr2 fun x6 hx3 hr2=>tg 18 z z z z (BG Ai ty88 g2 hx3 z z)<|Ah z z<|AH Ai ty88 g2 hx3 z z z fun b3 o3 h5=>Ab<|wAS (l':=[(0,u1),(1,u2),(5,(I x1)),(6,(I x1)),(7,u2),(8,(I (List.length a2:Int))),(9,(.bool (decide (x1 < (List.length a2:Int))))),(12,u1),(13,u2),(14,(I x1)),(15,(ptr b1 o1)),(16,(.agg #[(I x3.1),v2])),(17,(.bool x4)),(18,(.bool (!x4))),(19,(.bool false)),(20,(I x1)),(21,(.bool (decide (0 < x1)))),(22,(.bool true)),(23,u2),(24,(I x1)),(25,(I (w64 (x1 - 1)))),(26,(ptr b2 o2)),(28,u2),(29,(I x1)),(30,(ptr b3 o3))]) ⟨z,z,z,z,z,z,z,z,z,z,z,z,z,z,z,z,z,z,z,z,z,z,z,z,z,Aj⟩<|Bq [⟨15,[],fun vs=>Ce [] w0 x5,[]⟩,⟨19,[],fun vs=>Ce [] w0 x6,[]⟩] [[],[]] 4 z (by kernel_rfl) (by kernel_rfl) z ?_ ?_
      ·refine An z ?_ ?_
       ·intro w5 hB5
        refine At<|⟨_,z,?_⟩
        exact Ah z z<|AI ty88 h4 (hC4.keep.then hB5) z z fun v5 h8=>Ab<|Aw (Al _ _) z z ⟨z,h8⟩
       refine An z ?_ ?_
       ·intro w5 hB5
        refine At<|⟨_,z,?_⟩
        exact Ah z z<|AI ty88 h5 (hC4.keep.then hB5) z z fun v8 h11=>Ab<|Aw (Al _ _) z z ⟨z,h11⟩
       exact Bj
      intro w6 hB6
      refine Ar z z z ?_
      rintro v5 _ ⟨rfl,h8⟩
      obtain ⟨v4,rfl,h7⟩:=BD h8
      refine Ar z z z ?_
      rintro v8 _ ⟨rfl,h11⟩
      obtain ⟨v7,rfl,h10⟩:=BD h11
      refine Bt fun hn1 hb1=>have hC5:=hC4.grow hB6;be hr2 fun x7 hr4 hr2=>oe 20 z<|Ah z z<|ci C3 z z (c_S_CompareFacts x5 v4 (h7.now hC5.keep) x6 v7 (h10.now hC5.keep) x7 hr4) fun w7 hB7=>have hC6:=hC5.grow hB7;Ab<|tg 21 z z z z (fl_geq z z)<|Ah z z<|Cf z z z<|Ab<|tg 22 z z z z (Cg z z)<|Ah z z<|AW z z z<|Ab<|tq 23 z z z z<|dn<|?_
      obtain rfl:=Aa hr2
      exact Am (l':=[(0,u1),(1,u2),(5,(I x1)),(35,(.bool (decide (0 ≤ x7))))]) ⟨z,z,z,z,Aj⟩<|⟨(decide (0 ≤ x7)),z,z,((((Ao hB3).then hB4).then hB6).then hB7).below,hC6⟩
     replace hr2:=A8 hr2 hc3
     refine sk 11 z z z z z<|sk 12 z z z z z<|sk 13 z z z z z<|sk 14 z z z z z<|sk 15 z z z z z<|sk 16 z z z z z<|sk 17 z z z z z<|sk 18 z z z z z<|sk 19 z z z z z<|sk 20 z z z z z<|sk 21 z z z z z<|tg 22 z z z z (Ci z z)<|Ah z z<|AZ z z z<|Ab<|tq 23 z z z z<|dn<|?_
     obtain rfl:=Aa hr2
     exact Am (l':=[(0,u1),(1,u2),(5,(I x1)),(35,(.bool false))]) ⟨z,z,z,z,Aj⟩<|⟨false,z,z,((Ao hB3).then hB4).below,hC4⟩
    rintro _ w2 ⟨x2,rfl,rfl,hB2,hC2⟩
    try dsimp only at hL1
    refine AE z (fun hc4=>?_) (fun hc4=>?_)
    ·replace hL1:=A7 hL1 hc4
     refine Ac<|Ad z z<|Ab<|AL<|Bd<|Av<|Av<|Bd<|Av<|Av<|?_
     obtain rfl:=Aa hL1
     dsimp only at hF
     obtain rfl:=Aa hF
     exact A2 z z<|⟨_,z,AN hC2 _⟩
    replace hL1:=A8 hL1 hc4
    exact AF<|AU<|Ap<|Bg<|Ae z z<|Bn z z z<|Ad z z<|Ab<|Am (l':=[(0,u1),(1,u2),(5,(I (w64 (x1+1))))]) ⟨z,z,z,Aj⟩<|⟨k1,A3 _,w64 (x1+1),z,((Ao hB1).then hB2).below,hC2,hL1⟩
   replace hL1:=A8 hL1 hc1
   refine B1 (A9 (A9 (Bk ?_)))
   obtain rfl:=Aa hL1
   exact Am (l':=[(0,u1),(1,u2)]) ⟨z,z,Aj⟩<|⟨z,z,(Ao hB1).below,hC1⟩
 rintro l3 _ w9 hs3 ⟨rfl,rfl,hB8,hC7⟩
 try dsimp only at hF
 refine AY hs3 ?_
 clear hs3
 refine be hF fun r3 hr5 hF=>BI (fun l w=>∃x8:Bool,x8=r3∧l=[(4,(.bool x8))]∧Below w9.heap.size w9 w∧Ctx [] w0 w []) ?_ ?_
 ·refine Bg<|Ae z z<|be hr5 fun x9 hr6 hr5=>cb BX z z (c_S_IsSchema a1 u1 (g1.now hC7.keep) x9 hr6) fun w11 hB10=>have hC9:=hC7.grow hB10;Ae z z<|Bz (fun hc5=>?_) (fun hc5=>?_)
  ·replace hr5:=A7 hr5 hc5
   refine Ah z z<|Ae z z<|Ah z z<|Bc Ai g2 z z<|Ah z z<|Cp z z z<|AW z z z<|Ad z z<|Ab<|?_
   obtain rfl:=Aa hr5
   exact Am (l':=[(4,(.bool (decide ((List.length a2:Int) ≤ 24))))]) ⟨z,Aj⟩<|⟨(decide ((List.length a2:Int) ≤ 24)),z,z,(Ao hB10).below,hC9⟩
  replace hr5:=A8 hr5 hc5
  refine gs z z z z<|gs z z z z<|gs z z z z<|AZ z z z<|Ad z z<|Ab<|?_
  obtain rfl:=Aa hr5
  exact Am (l':=[(4,(.bool false))]) ⟨z,Aj⟩<|⟨false,z,z,(Ao hB10).below,hC9⟩
 rintro _ w10 ⟨x8,rfl,rfl,hB9,hC8⟩
 try dsimp only at hF
 refine AL ?_
 obtain rfl:=Aa hF
 exact A2 z z<|⟨_,z,AN hC8 _⟩
theorem c_S_MatchesOf {w0:World} (a1:(List Int)) (u1:Value) (g1:RO [] w0 u1 a1) (a2:(List (Int × (List Int) × Int × Int × Int))) (u2:Value) (g2:RO [] w0 u2 a2) (a3:(List (Int × (List Int)))) (u3:Value) (g3:RO [] w0 u3 a3) (a4:(Int × (List Int))) (u4:Value) (g4:RO [] w0 u4 a4.2) (rr:(List (Int × (List Int)))) (hF:S.MatchesOf a1 a2 a3 a4=some rr) :
 Calls Tryz.prog 172 [u1,u2,u3,(.agg #[(I a4.1),u4])].toArray w0 fun e w'=>∃v,e=.returned v∧Res w0 rr v w':=by
 refine Ax Tryz.func172 z z ?_
 have hC0:=A5 w0
 unfold S.MatchesOf at hF
 refine Ac<|Br (cs:=[(I a4.1),u4]) hC0 z z z fun b1 w1 hC1 hB1 hN1=>Ad z z<|Ab<|A6<|be hF fun r1 hr1 hF=>BI (fun l w=>∃x1:Bool,x1=r1∧l=[(1,u2),(2,u3),(7,(ptr b1 0)),(19,(.bool x1))]∧Below w1.heap.size w1 w∧Ctx [] w0 w [Ag b1 [(I a4.1),u4]]) ?_ ?_
 ·refine Bg<|Ae z z<|Ae z z<|Au [(I a4.1),u4] hC1 0 z z z Bu AV z z<|be hr1 fun x2 hr2 hr1=>cb Tryz.call100 z z (c_S_IsAccess a1 u1 (g1.now hC1.keep) a2 u2 (g2.now hC1.keep) (a4.1,a4.2) u4 (g4.now hC1.keep) x2 hr2) fun w3 hB3=>have hC3:=hC1.grow hB3;B3 z z<|Ae z z<|Bz (fun hc1=>?_) (fun hc1=>?_)
  ·replace hr1:=A7 hr1 hc1
   refine gs z z z z<|gs z z z z<|gs z z z z<|gs z z z z<|AW z z z<|Ab<|?_
   obtain rfl:=Aa hr1
   exact Am (l':=[(1,u2),(2,u3),(7,(ptr b1 0)),(19,(.bool true))]) ⟨z,z,z,z,Aj⟩<|⟨true,z,z,(Ao hB3).below,hC3⟩
  replace hr1:=A8 hr1 hc1
  refine Ah z z<|Ae z z<|Ah z z<|Ae z z<|be hr1 fun x3 hr3 hr1=>Ah z z<|cb Tryz.call101 z z (c_S_AreFacts a1 u1 (g1.now hC3.keep) a3 u3 (g3.now hC3.keep) x3 hr3) fun w4 hB4=>have hC4:=hC3.grow hB4;Ah z z<|B3 z z<|AZ z z z<|Ab<|?_
  obtain rfl:=Aa hr1
  exact Am (l':=[(1,u2),(2,u3),(7,(ptr b1 0)),(19,(.bool (!x3)))]) ⟨z,z,z,z,Aj⟩<|⟨(!x3),z,z,((Ao hB3).then hB4).below,hC4⟩
 rintro _ w2 ⟨x1,rfl,rfl,hB2,hC2⟩
 try dsimp only at hF
 refine AE z (fun hc2=>?_) (fun hc2=>?_)
 ·replace hF:=A7 hF hc2
  refine Ac<|AC (vs:=[]) hC2 Ai ty88 z z z z (by simp) z z fun b2 w5 hC5 hB5=>?_
  have hC6:=hC5.row0 (α:=(Int × (List Int)))
  have hC7:=hC6.front 1 z
  dsimp only [List.eraseIdx,List.cons_append,List.nil_append,List.append_nil] at hC7
  have hC8:Ctx [] w0 w5 (Af (.slice (some ⟨b2,0,none⟩) 0 0) (([]:List (Int × (List Int))):List (Int × (List Int)))::[Ag b1 [(I a4.1),u4]]):=hC7.rowOwn (by simp [maxLen])
  refine Ad z z<|Ab<|AL<|Av<|?_
  obtain rfl:=Aa hF
  exact A2 z z<|⟨_,z,BY hC8 0 z⟩
 replace hF:=A8 hF hc2
 refine AF<|Ap<|A6<|W_drawn 10 z hmix fun w6 hB6=>have hC9:=hC2.grow hB6;tm 0 z z z<|tf 1 AQ Ay z z z z z<|tf 5 AQ Az z z z z z<|tm 7 z z z<|be hF fun x4 hx1 hF=>wAS (l':=[(1,u2),(2,u3),(7,(ptr b1 0)),(19,(.bool x1)),(21,u2),(22,(ptr b1 0)),(26,(ptr b1 1)),(28,u3)]) ⟨z,z,z,z,z,z,z,z,Aj⟩<|Bq [⟨2,[],fun vs=>Ba (I a4.1),[]⟩,⟨3,[],fun vs=>BZ [] w0 x4,[]⟩,⟨4,[],fun vs=>Ce [] w0 x4,[]⟩,⟨6,[],fun vs=>Ba u4,[]⟩] [[],[2],[3],[]] 2 z (by kernel_rfl) (by kernel_rfl) z ?_ ?_
 ·refine An z ?_ ?_
  ·intro w7 hB7
   refine At<|⟨_,z,?_⟩
   exact Aq (hC9.grow hB7) 0 z z AR z z<|Ab<|Aw (Al _ _) z z ⟨z,z⟩
  refine An z ?_ ?_
  ·intro w7 hB7
   refine AD z z z ?_
   rintro _ _ ⟨rfl,rfl⟩ _
   refine At<|⟨_,z,?_⟩
   exact AH Be ty93 g2 hx1 z z z fun b3 o1 h1=>Ab<|Aw (Al _ _) z z ⟨z,_,_,z,h1⟩
  refine An z ?_ ?_
  ·intro w7 hB7
   refine AD z z z ?_
   rintro _ _ ⟨rfl,b3,o1,rfl,h1⟩ _
   refine At<|⟨_,z,?_⟩
   exact AI ty93 h1 (hC9.keep.then hB7) z z fun v3 h4=>Ab<|Aw (Al _ _) z z ⟨z,h4⟩
  refine An z ?_ ?_
  ·intro w7 hB7
   refine At<|⟨_,z,?_⟩
   exact Aq (hC9.grow hB7) 0 z z AM z z<|Ab<|Aw (Al _ _) z z ⟨z,z⟩
  exact Bj
 intro w9 hB8
 refine Ar z z z ?_
 rintro _ _ ⟨rfl,rfl⟩
 refine Ar z z z ?_
 rintro _ _ ⟨rfl,b3,o1,rfl,h1⟩
 refine Ar z z z ?_
 rintro v3 _ ⟨rfl,h4⟩
 obtain ⟨v2,rfl,h3⟩:=CE h4
 refine Ar z z z ?_
 rintro _ _ ⟨rfl,rfl⟩
 refine Bt fun hn1 hb1=>have hC10:=hC9.grow hB8;be hF fun x5 hr4 hF=>oe 8 z<|AG Tryz.call80 z z (c_S_l5Matches x4 v2 (h3.now hC10.keep) a4.2 u4 (g4.now hC10.keep) a3 u3 (g3.now hC10.keep) x5 hr4)<|?_
 rintro v4 w10 ⟨hB9,F1,hv3,hn2,hb2⟩
 have hC11:=hC10.push hB9 (A:=Af v4 x5) hv3 hn2 hb2
 refine Ab<|ta 9 z z z<|dn<|Ap<|AL<|?_
 obtain rfl:=Aa hF
 exact A2 z z<|⟨_,z,BY hC11 0 z⟩
theorem c_S_RespondTo {w0:World} (a1:(List Int)) (u1:Value) (g1:RO [] w0 u1 a1) (a2:(List (Int × (List Int) × Int × Int × Int))) (u2:Value) (g2:RO [] w0 u2 a2) (a3:(List (Int × (List Int)))) (u3:Value) (g3:RO [] w0 u3 a3) (a4:(Int × (List Int))) (u4:Value) (g4:RO [] w0 u4 a4.2) (a5:Int) (rr:(List (Int × (List Int)))) (hF:S.RespondTo a1 a2 a3 a4 a5=some rr) :
 Calls Tryz.prog 122 [u1,u2,u3,(.agg #[(I a4.1),u4]),(I a5)].toArray w0 fun e w'=>∃v,e=.returned v∧Res w0 rr v w':=by
 refine Ax Tryz.func122 z z ?_
 have hC0:=A5 w0
 unfold S.RespondTo at hF
 refine Ac<|Br (cs:=[(I a4.1),u4]) hC0 z z z fun b1 w1 hC1 hB1 hN1=>Ad z z<|Ab<|Ac<|Ae z z<|Ae z z<|Ae z z<|Au [(I a4.1),u4] hC1 0 z z z Bu AV z z<|be hF fun x1 hr1 hF=>AG Tryz.call172 z z (c_S_MatchesOf a1 u1 (g1.now hC1.keep) a2 u2 (g2.now hC1.keep) a3 u3 (g3.now hC1.keep) (a4.1,a4.2) u4 (g4.now hC1.keep) x1 hr1)<|?_
 rintro v1 w2 ⟨hB2,F1,hv1,hn1,hb1⟩
 have hC2:=hC1.push hB2 (A:=Af v1 x1) hv1 hn1 hb1
 refine Ad z z<|Ab<|A6<|be hF fun r1 hr2 hF=>BI (fun l w=>∃x2:Bool,x2=r1∧l=[(1,u2),(4,(I a5)),(8,(ptr b1 0)),(11,v1),(42,(.bool x2))]∧Below w2.heap.size w2 w∧Ctx [] w0 w [Af v1 (x1:(List (Int × (List Int)))),Ag b1 [(I a4.1),u4]]) ?_ ?_
 ·refine Bg<|Ae z z<|Bc Ai (hC2.ro 0 z) z z<|BM z z z<|Ae z z<|Bz (fun hc1=>?_) (fun hc1=>?_)
  ·replace hr2:=A7 hr2 hc1
   refine gs z z z z<|gs z z z z<|gs z z z z<|gs z z z z<|gs z z z z<|gs z z z z<|gs z z z z<|AW z z z<|Ae z z<|gs z z z z<|gs z z z z<|gs z z z z<|gs z z z z<|gs z z z z<|gs z z z z<|gs z z z z<|gs z z z z<|gs z z z z<|AW z z z<|Ab<|?_
   obtain rfl:=Aa hr2
   exact Am (l':=[(1,u2),(4,(I a5)),(8,(ptr b1 0)),(11,v1),(42,(.bool true))]) ⟨z,z,z,z,z,Aj⟩<|⟨true,z,z,(Al _ _),hC2⟩
  replace hr2:=A8 hr2 hc1
  refine Ah z z<|Ae z z<|Ah z z<|fd AQ Ay z z z z<|Ah z z<|Aq hC2 1 z z AR z z<|be hr2 fun x3 hx1 hr2=>Ah z z<|AH Be ty93 g2 hx1 z z z fun b2 o1 h1=>Ah z z<|fd AB Ay z z z z<|Ah z z<|AI ty3 h1.snd.snd.fst hC2.keep z z fun v2 h2=>?_
  obtain rfl:=B8 h2
  refine Ah z z<|BM z z z<|AZ z z z<|Ae z z<|Bz (fun hc2=>?_) (fun hc2=>?_)
  ·replace hr2:=A7 hr2 hc2
   refine gs z z z z<|gs z z z z<|gs z z z z<|gs z z z z<|gs z z z z<|gs z z z z<|gs z z z z<|gs z z z z<|gs z z z z<|AW z z z<|Ab<|?_
   obtain rfl:=Aa hr2
   exact Am (l':=[(1,u2),(4,(I a5)),(8,(ptr b1 0)),(11,v1),(42,(.bool true))]) ⟨z,z,z,z,z,Aj⟩<|⟨true,z,z,(Al _ _),hC2⟩
  replace hr2:=A8 hr2 hc2
  refine Ah z z<|Ae z z<|Ah z z<|Bc Ai (hC2.ro 0 z) z z<|Ah z z<|Ae z z<|Ah z z<|fd AQ Ay z z z z<|Ah z z<|Aq hC2 1 z z AR z z<|be hr2 fun x4 hx2 hr2=>Ah z z<|AH Be ty93 g2 hx2 z z z fun b3 o2 h3=>Ah z z<|fd AB Ay z z z z<|Ah z z<|AI ty3 h3.snd.snd.fst hC2.keep z z fun v3 h4=>?_
  obtain rfl:=B8 h4
  refine Ah z z<|Cp z z z<|AZ z z z<|Ab<|?_
  obtain rfl:=Aa hr2
  exact Am (l':=[(1,u2),(4,(I a5)),(8,(ptr b1 0)),(11,v1),(42,(.bool (decide ((List.length x1:Int) ≤ x4.2.2.1))))]) ⟨z,z,z,z,z,Aj⟩<|⟨(decide ((List.length x1:Int) ≤ x4.2.2.1)),z,z,(Al _ _),hC2⟩
 rintro _ w3 ⟨x2,rfl,rfl,hB3,hC3⟩
 try dsimp only at hF
 refine AE z (fun hc3=>?_) (fun hc3=>?_)
 ·replace hF:=A7 hF hc3
  refine Ac<|Ae z z<|Ad z z<|Ab<|AL<|Av<|?_
  obtain rfl:=Aa hF
  exact A2 z z<|⟨_,z,BY hC3 0 z⟩
 replace hF:=A8 hF hc3
 refine AF<|Ap<|Ac<|AC (vs:=[]) hC3 Ai ty88 z z z z (by simp) z z fun b4 w4 hC4 hB4=>?_
 have hC5:=hC4.row0 (α:=(Int × (List Int)))
 have hC6:=hC5.front 1 z
 dsimp only [List.eraseIdx,List.cons_append,List.nil_append,List.append_nil] at hC6
 have hC7:Ctx [] w0 w4 (Af (.slice (some ⟨b4,0,none⟩) 0 0) (([]:List (Int × (List Int))):List (Int × (List Int)))::[Af v1 (x1:(List (Int × (List Int)))),Ag b1 [(I a4.1),u4]]):=hC6.rowOwn (by simp [maxLen])
 refine Ad z z<|Ab<|Ac<|Ae z z<|WL_max z z z<|Ae z z<|Bc Ai (hC7.ro 1 z) z z<|be hF fun _ hx3 hF=>WL_rem (nz_some hx3) z z z<|Ad z z<|Ab<|A6<|Ac<|Ad z z<|Ab<|be hF fun r2 hr3 hF=>Bi (fun l w=>∃v5:Value,∃x7:(List (Int × (List Int))),x7=r2∧l=[(12,v5)]∧Below w4.heap.size w4 w∧Ctx [] w0 w [Af v5 (x7:(List (Int × (List Int))))]) ?_ ?_
 ·refine AJ<|wS (l':=[(1,u2),(8,(ptr b1 0)),(11,v1),(12,(.slice (some ⟨b4,0,none⟩) 0 0)),(13,(I ((if 0 > a5 then 0 else a5).tmod (List.length x1:Int)))),(14,(I 0))]) ⟨z,z,z,z,z,z,Aj⟩<|B2 (fun k l w=>∃v4:Value,∃x5:(List (Int × (List Int))),∃x6:Int,l=[(1,u2),(8,(ptr b1 0)),(11,v1),(12,v4),(13,(I ((if 0 > a5 then 0 else a5).tmod (List.length x1:Int)))),(14,(I x6))]∧Below w4.heap.size w4 w∧Ctx [] w0 w [Af v4 (x5:(List (Int × (List Int)))),Af v1 (x1:(List (Int × (List Int)))),Ag b1 [(I a4.1),u4]]∧S.RespondTo_l1 a2 a4 x1 a5 k x5 x6=some r2) FUEL ⟨(.slice (some ⟨b4,0,none⟩) 0 0),([]:List (Int × (List Int))),0,z,(Al _ _),hC7,hr3⟩<|?_
  clear hr3
  rintro k1 _ w5 ⟨v4,x5,x6,rfl,hB5,hC8,hL1⟩
  cases k1 with
  | zero=>rw [S.RespondTo_l1] at hL1; cases hL1
  | succ k1 =>
   rw [S.RespondTo_l1] at hL1
   refine A6<|Ac<|Ae z z<|Ae z z<|fd AQ Ay z z z z<|Aq hC8 2 z z AR z z<|be hL1 fun x8 hx4 hL1=>AH Be ty93 g2 hx4 z z z fun b5 o3 h5=>fd AB Ay z z z z<|AI ty3 h5.snd.snd.fst hC8.keep z z fun v6 h6=>?_
   obtain rfl:=B8 h6
   refine Bv z z z<|Ab<|AE z (fun hc4=>?_) (fun hc4=>?_)
   ·replace hL1:=A7 hL1 hc4
    refine AF<|Ap<|A6<|AJ<|Bg<|Ae z z<|Ae z z<|Ae z z<|Ae z z<|Bn z z z<|Ae z z<|Bc Ai (hC8.ro 1 z) z z<|be hL1 fun _ hx5 hL1=>WL_rem (nz_some hx5) z z z<|be hL1 fun x9 hx6 hL1=>AH Ai ty88 (hC8.ro 1 z) hx6 z z z fun b6 o4 h7=>AI ty88 h7 (A1 _ _) z z fun v7 h8=>?_
    obtain ⟨v8,rfl,h9⟩:=BD h8
    refine be hL1 fun x10 hr4 hL1=>AG CT z z (c_S_AddFact x5 v4 ((hC8.ro 0 z).now (A1 _ _)) x9 v8 (h9.now (A1 _ _)) x10 hr4)<|?_
    rintro v9 w6 ⟨hB6,F2,hv2,hn2,hb2⟩
    have hC9:=hC8.push hB6 (A:=Af v9 x10) hv2 hn2 hb2
    exact Ad z z<|Ab<|AU<|Ap<|Bg<|Ae z z<|Bn z z z<|Ad z z<|Ab<|have hC10:=hC9.f3;have hC11:=hC10.f3;have hC12:=hC11.f2;have hC13:=hC12.h3;Am (l':=[(1,u2),(8,(ptr b1 0)),(11,v1),(12,v9),(13,(I ((if 0 > a5 then 0 else a5).tmod (List.length x1:Int)))),(14,(I (w64 (x6+1))))]) ⟨z,z,z,z,z,z,Aj⟩<|⟨k1,A3 _,v9,x10,w64 (x6+1),z,((Ao hB5).then hB6).below,hC13,hL1⟩
   replace hL1:=A8 hL1 hc4
   refine B1 (A9 (A9 (Bk ?_)))
   obtain rfl:=Aa hL1
   have hC14:=hC8.h1
   exact Am (l':=[(12,v4)]) ⟨z,Aj⟩<|⟨v4,x5,z,z,(Ao hB5).below,hC14⟩
 rintro l3 _ w7 hs3 ⟨v5,x7,rfl,rfl,hB7,hC15⟩
 try dsimp only at hF
 refine AY hs3 ?_
 clear hs3
 refine Ac<|Ae z z<|Ad z z<|Ab<|AL<|?_
 obtain rfl:=Aa hF
 exact A2 z z<|⟨_,z,BY hC15 0 z⟩
theorem c_S_l5AnyAccess {w0:World} {Fs:List (List Nat)} (pb1:Nat) (a1:((List UInt8) × Int × Int)) (u1:Value) (g1:RO Fs.flatten w0 u1 a1.1) (a2:(List (Int × (List Int) × Int × Int × Int))) (u2:Value) (g2:RO Fs.flatten w0 u2 a2) (hH:Hold [Ag pb1 [u1,(I a1.2.1),(I a1.2.2)]] w0 Fs) (hn:Fs.flatten.Nodup) (rr:((Int × (List Int)) × ((List UInt8) × Int × Int))) (hF:S.l5AnyAccess a1 a2=some rr) :
 Calls Tryz.prog 123 [(ptr pb1 0),u2].toArray w0 fun e w'=>∃v,e=.returned v∧∃q0:Value,v=q0∧Ctx Fs.flatten w0 w' [Af q0 (rr.1:(Int × (List Int))),Ag pb1 [u1,(I rr.2.2.1),(I rr.2.2.2)]]:=by
 refine Ax Tryz.func123 z z ?_
 have hC0:=BE hH hn
 unfold S.l5AnyAccess at hF
 refine Ac<|Bw hC0 zero44 z z fun b1 w1 hC1 hB1 hN1=>Ab<|Ac<|Ae z z<|Ae z z<|be hF fun x1 hr1 hF=>have hC2:=hC1.f1;?_
 obtain ⟨Fs1,hH1,hn1,hF1,hO1,hb1⟩:=AX (As:=[Ag b1 [(I 0),(.slice none 0 0)]]) [Ag pb1 [u1,(I a1.2.1),(I a1.2.2)]] hC2
 refine AG Tryz.call121 z z (c_S_l5Access pb1 (a1.1,a1.2.1,a1.2.2) u1 (Bf g1 hC2.keep hF1) a2 u2 (Bf g2 hC2.keep hF1) hH1 hn1 x1 hr1) ?_
 rintro v1 w2 ⟨_,rfl,hq1⟩
 have hC3:Ctx Fs.flatten w0 w2 [Af v1 (x1.1:(Int × (List Int))),Ag pb1 [u1,(I x1.2.2.1),(I x1.2.2.2)],Ag b1 [(I 0),(.slice none 0 0)]]:=hb1 _ _ hq1
 obtain ⟨v2,rfl,hC4⟩:=st44_own hC3
 refine Bw hC4 zero44 z z fun b2 w3 hC5 hB2 hN2=>AA (cs':=[(I x1.1.1),v2]) (new:=[(I x1.1.1),v2]) hC5 0 z z (fac z<|fac (B0 (hC5.ro 1 z))<|fa0) z AV z z fun w4 hC6 hKp1=>?_
 try dsimp only [List.set] at hC6
 have hk1:=AO (Ao hB2) hN2 hKp1
 refine Ab<|A6<|Ac<|Ae z z<|be hF fun x2 hr2 hF=>have hC7:=hC6.f2;?_
 obtain ⟨Fs2,hH2,hn2,hF2,hO2,hb2⟩:=AX (As:=[Ag b2 [(I x1.1.1),v2],Af v2 (x1.1.2:(List Int)),Ag b1 [(I 0),(.slice none 0 0)]]) [Ag pb1 [u1,(I x1.2.2.1),(I x1.2.2.2)]] hC7
 refine AG Bo z z (c_S_l1Below pb1 (a1.1,x1.2.2.1,x1.2.2.2) u1 (Bf g1 hC7.keep hF2) 12 hH2 hn2 x2 hr2) ?_
 rintro _ w5 ⟨rfl,hq2⟩
 have hC8:Ctx Fs.flatten w0 w5 [Ag pb1 [u1,(I x2.2.2.1),(I x2.2.2.2)],Ag b2 [(I x1.1.1),v2],Af v2 (x1.1.2:(List Int)),Ag b1 [(I 0),(.slice none 0 0)]]:=hb2 _ _ hq2
 refine Ab<|AJ<|Ac<|BM z z z<|Ad z z<|Ab<|be hF fun r1 hr3 hF=>Bi (fun l w=>∃x3:Int,∃x4:Int,∃x5:Int,∃v3:Value,∃x6:(List Int),(x3,x4,x5,x6)=r1∧l=[(4,(ptr b1 0)),(5,(ptr b2 0))]∧Ctx Fs.flatten w0 w [Ag pb1 [u1,(I x3),(I x4)],Ag b2 [(I x5),v3],Af v3 (x6:(List Int)),Ag b1 [(I 0),(.slice none 0 0)]]) ?_ ?_
 ·refine AE z (fun hc1=>?_) (fun hc1=>?_)
  ·replace hr3:=A7 hr3 hc1
   refine Bg<|Ae z z<|be hr3 fun x7 hr4 hr3=>?_
   obtain ⟨Fs3,hH3,hn3,hF3,hO3,hb3⟩:=AX (As:=[Ag b2 [(I x1.1.1),v2],Af v2 (x1.1.2:(List Int)),Ag b1 [(I 0),(.slice none 0 0)]]) [Ag pb1 [u1,(I x2.2.2.1),(I x2.2.2.2)]] hC8
   refine AG Bo z z (c_S_l1Below pb1 (a1.1,x2.2.2.1,x2.2.2.2) u1 (Bf g1 hC8.keep hF3) 7 hH3 hn3 x7 hr4) ?_
   rintro _ w7 ⟨rfl,hq3⟩
   have hC10:Ctx Fs.flatten w0 w7 [Ag pb1 [u1,(I x7.2.2.1),(I x7.2.2.2)],Ag b2 [(I x1.1.1),v2],Af v2 (x1.1.2:(List Int)),Ag b1 [(I 0),(.slice none 0 0)]]:=hb3 _ _ hq3
   refine BR z z z<|fd AQ Ay z z z z<|B9 (cs':=[(I (w64 (x7.1 - 1))),v2]) hC10 1 z z z z Ay z z fun w9 hC11 hKp2=>?_
   try dsimp only [List.set] at hC11
   refine Ab ?_
   obtain rfl:=Aa hr3
   exact Am (l':=[(4,(ptr b1 0)),(5,(ptr b2 0))]) ⟨z,z,Aj⟩<|⟨x7.2.2.1,x7.2.2.2,w64 (x7.1 - 1),v2,x1.1.2,z,z,hC11⟩
  replace hr3:=A8 hr3 hc1
  refine Ac<|BM z z z<|Ad z z<|Ab<|be hr3 fun r2 hr5 hr3=>Bi (fun l w=>∃x8:Int,∃x9:Int,∃x10:Int,∃v4:Value,∃x11:(List Int),(x8,x9,x10,x11)=r2∧l=[(4,(ptr b1 0)),(5,(ptr b2 0))]∧Ctx Fs.flatten w0 w [Ag pb1 [u1,(I x8),(I x9)],Ag b2 [(I x10),v4],Af v4 (x11:(List Int)),Ag b1 [(I 0),(.slice none 0 0)]]) ?_ ?_
  ·refine AE z (fun hc2=>?_) (fun hc2=>?_)
   ·replace hr5:=A7 hr5 hc2
    refine be hr5 fun r3 hr6 hr5=>Bi (fun l w=>∃x12:Int,∃x13:Int,∃x14:Int,∃v5:Value,∃x15:(List Int),(x12,x13,x14,x15)=r3∧l=[(4,(ptr b1 0)),(5,(ptr b2 0))]∧Ctx Fs.flatten w0 w [Ag pb1 [u1,(I x12),(I x13)],Ag b2 [(I x14),v5],Af v5 (x15:(List Int)),Ag b1 [(I 0),(.slice none 0 0)]]) ?_ ?_
    ·refine W_drawn 9 z hmix fun w12 hB6=>have hC14:=hC8.grow hB6;tf 0 AQ Az z z z z z<|tm 2 z z z<|Cn (i:=1) (j:=3) (by kernel_rfl) z z ?_ ?_
     ·refine Aq hC14 1 z z AM z z<|Ab<|oe 3 z<|AC (vs:=[(I (-1)),(I 3),(I 10)]) hC14 Ak ty3 z z z z (fac z<|fac z<|fac z<|fa0) z z fun b3 w13 hC15 hB7=>?_
      have hC16:=hC15.row0 (α:=Int)
      have hC17:=hC16.triv (Bx (10))
      have hC18:=hC17.row1
      have hC19:=hC18.triv (Bx (3))
      have hC20:=hC19.row1
      have hC21:=hC20.triv (Bx ((-1)))
      have hC22:=hC21.row1
      have hC23:=hC22.front 1 z
      dsimp only [List.eraseIdx,List.cons_append,List.nil_append,List.append_nil] at hC23
      have hC24:Ctx Fs.flatten w0 w13 (Af (.slice (some ⟨b3,0,none⟩) 3 3) ([(-1),3,10]:List Int)::[Ag pb1 [u1,(I x2.2.2.1),(I x2.2.2.2)],Ag b2 [(I x1.1.1),v2],Af v2 (x1.1.2:(List Int)),Ag b1 [(I 0),(.slice none 0 0)]]):=hC23.rowOwn (by simp [maxLen])
      refine Ab<|be hr6 fun x16 hr7 hr6=>oe 4 z<|have hC25:=hC24.f1;?_
      obtain ⟨Fs4,hH4,hn4,hF4,hO4,hb4⟩:=AX (As:=[Af (.slice (some ⟨b3,0,none⟩) 3 3) ([(-1),3,10]:(List Int)),Ag b2 [(I x1.1.1),v2],Af v2 (x1.1.2:(List Int)),Ag b1 [(I 0),(.slice none 0 0)]]) [Ag pb1 [u1,(I x2.2.2.1),(I x2.2.2.2)]] hC25
      refine AG BS z z (c_S_l1PickInt pb1 (a1.1,x2.2.2.1,x2.2.2.2) u1 (Bf g1 hC25.keep hF4) ([(-1),3,10]) (.slice (some ⟨b3,0,none⟩) 3 3) (hO4 0 _ _ _ z) hH4 hn4 x16 hr7) ?_
      rintro _ w14 ⟨rfl,hq5⟩
      have hC26:Ctx Fs.flatten w0 w14 [Ag pb1 [u1,(I x16.2.2.1),(I x16.2.2.2)],Af (.slice (some ⟨b3,0,none⟩) 3 3) ([(-1),3,10]:(List Int)),Ag b2 [(I x1.1.1),v2],Af v2 (x1.1.2:(List Int)),Ag b1 [(I 0),(.slice none 0 0)]]:=hb4 _ _ hq5
      refine Ab<|oe 5 z<|AC (vs:=[(I x16.1)]) hC26 Ak ty3 z z z z (fac z<|fa0) z z fun b4 w15 hC27 hB8=>?_
      have hC28:=hC27.row0 (α:=Int)
      have hC29:=hC28.triv (Bx (x16.1))
      have hC30:=hC29.row1
      have hC31:=hC30.front 1 z
      dsimp only [List.eraseIdx,List.cons_append,List.nil_append,List.append_nil] at hC31
      have hC32:Ctx Fs.flatten w0 w15 (Af (.slice (some ⟨b4,0,none⟩) 1 1) ([x16.1]:List Int)::[Ag pb1 [u1,(I x16.2.2.1),(I x16.2.2.2)],Af (.slice (some ⟨b3,0,none⟩) 3 3) ([(-1),3,10]:(List Int)),Ag b2 [(I x1.1.1),v2],Af v2 (x1.1.2:(List Int)),Ag b1 [(I 0),(.slice none 0 0)]]):=hC31.rowOwn (by simp [maxLen])
      refine Ab<|be hr6 fun x17 hx1 hr6=>oe 6 z<|BF (α:=Int) hC32 4 z (hC32.ro 0 z) (A1 _ _) Ak ty3 z hx1 z z z fun v6 w16 hC33=>?_
      try dsimp only [List.set] at hC33
      refine Ab<|tf 7 AQ Az z z z z z<|oe 8 z<|B9 (cs':=[(I x1.1.1),v6]) hC33 3 z z (B0 (hC33.ro 4 z)) z Az z z fun w17 hC34 hKp3=>?_
      try dsimp only [List.set] at hC34
      refine Ab<|dn<|?_
      obtain rfl:=Aa hr6
      have hC35:=hC34.f5
      have hC36:=hC35.f5
      have hC37:=hC36.f5
      have hC38:=hC37.f4
      have hC39:=hC38.h4
      exact Am (l':=[(4,(ptr b1 0)),(5,(ptr b2 0))]) ⟨z,z,Aj⟩<|⟨x16.2.2.1,x16.2.2.2,x1.1.1,v6,x17,z,z,hC39⟩
     refine AC (vs:=[(I (-1)),(I 3),(I 10)]) hC14 Ak ty3 z z z z (fac z<|fac z<|fac z<|fa0) z z (fun b3 w13 hC15 hB7=>?_)
     have hC16:=hC15.row0 (α:=Int)
     have hC17:=hC16.triv (Bx (10))
     have hC18:=hC17.row1
     have hC19:=hC18.triv (Bx (3))
     have hC20:=hC19.row1
     have hC21:=hC20.triv (Bx ((-1)))
     have hC22:=hC21.row1
     have hC23:=hC22.front 1 z
     dsimp only [List.eraseIdx,List.cons_append,List.nil_append,List.append_nil] at hC23
     have hC24:Ctx Fs.flatten w0 w13 (Af (.slice (some ⟨b3,0,none⟩) 3 3) ([(-1),3,10]:List Int)::[Ag pb1 [u1,(I x2.2.2.1),(I x2.2.2.2)],Ag b2 [(I x1.1.1),v2],Af v2 (x1.1.2:(List Int)),Ag b1 [(I 0),(.slice none 0 0)]]):=hC23.rowOwn (by simp [maxLen])
     refine Ab<|Cn (i:=1) (j:=4) (by kernel_rfl) z z ?_ ?_
     ·refine Aq hC24 2 z z AM z z<|Ab<|be hr6 fun x16 hr7 hr6=>oe 4 z<|have hC25:=hC24.f1;?_
      obtain ⟨Fs4,hH4,hn4,hF4,hO4,hb4⟩:=AX (As:=[Af (.slice (some ⟨b3,0,none⟩) 3 3) ([(-1),3,10]:(List Int)),Ag b2 [(I x1.1.1),v2],Af v2 (x1.1.2:(List Int)),Ag b1 [(I 0),(.slice none 0 0)]]) [Ag pb1 [u1,(I x2.2.2.1),(I x2.2.2.2)]] hC25
      refine AG BS z z (c_S_l1PickInt pb1 (a1.1,x2.2.2.1,x2.2.2.2) u1 (Bf g1 hC25.keep hF4) ([(-1),3,10]) (.slice (some ⟨b3,0,none⟩) 3 3) (hO4 0 _ _ _ z) hH4 hn4 x16 hr7) ?_
      rintro _ w14 ⟨rfl,hq5⟩
      have hC26:Ctx Fs.flatten w0 w14 [Ag pb1 [u1,(I x16.2.2.1),(I x16.2.2.2)],Af (.slice (some ⟨b3,0,none⟩) 3 3) ([(-1),3,10]:(List Int)),Ag b2 [(I x1.1.1),v2],Af v2 (x1.1.2:(List Int)),Ag b1 [(I 0),(.slice none 0 0)]]:=hb4 _ _ hq5
      refine Ab<|oe 5 z<|AC (vs:=[(I x16.1)]) hC26 Ak ty3 z z z z (fac z<|fa0) z z fun b4 w15 hC27 hB8=>?_
      have hC28:=hC27.row0 (α:=Int)
      have hC29:=hC28.triv (Bx (x16.1))
      have hC30:=hC29.row1
      have hC31:=hC30.front 1 z
      dsimp only [List.eraseIdx,List.cons_append,List.nil_append,List.append_nil] at hC31
      have hC32:Ctx Fs.flatten w0 w15 (Af (.slice (some ⟨b4,0,none⟩) 1 1) ([x16.1]:List Int)::[Ag pb1 [u1,(I x16.2.2.1),(I x16.2.2.2)],Af (.slice (some ⟨b3,0,none⟩) 3 3) ([(-1),3,10]:(List Int)),Ag b2 [(I x1.1.1),v2],Af v2 (x1.1.2:(List Int)),Ag b1 [(I 0),(.slice none 0 0)]]):=hC31.rowOwn (by simp [maxLen])
      refine Ab<|be hr6 fun x17 hx1 hr6=>oe 6 z<|BF (α:=Int) hC32 4 z (hC32.ro 0 z) (A1 _ _) Ak ty3 z hx1 z z z fun v6 w16 hC33=>?_
      try dsimp only [List.set] at hC33
      refine Ab<|tf 7 AQ Az z z z z z<|oe 8 z<|B9 (cs':=[(I x1.1.1),v6]) hC33 3 z z (B0 (hC33.ro 4 z)) z Az z z fun w17 hC34 hKp3=>?_
      try dsimp only [List.set] at hC34
      refine Ab<|dn<|?_
      obtain rfl:=Aa hr6
      have hC35:=hC34.f5
      have hC36:=hC35.f5
      have hC37:=hC36.f5
      have hC38:=hC37.f4
      have hC39:=hC38.h4
      exact Am (l':=[(4,(ptr b1 0)),(5,(ptr b2 0))]) ⟨z,z,Aj⟩<|⟨x16.2.2.1,x16.2.2.2,x1.1.1,v6,x17,z,z,hC39⟩
     refine be hr6 fun x16 hr7 hr6=>have hC25:=hC24.f1;?_
     obtain ⟨Fs4,hH4,hn4,hF4,hO4,hb4⟩:=AX (As:=[Af (.slice (some ⟨b3,0,none⟩) 3 3) ([(-1),3,10]:(List Int)),Ag b2 [(I x1.1.1),v2],Af v2 (x1.1.2:(List Int)),Ag b1 [(I 0),(.slice none 0 0)]]) [Ag pb1 [u1,(I x2.2.2.1),(I x2.2.2.2)]] hC25
     refine AG BS z z (c_S_l1PickInt pb1 (a1.1,x2.2.2.1,x2.2.2.2) u1 (Bf g1 hC25.keep hF4) ([(-1),3,10]) (.slice (some ⟨b3,0,none⟩) 3 3) (hO4 0 _ _ _ z) hH4 hn4 x16 hr7) ?_
     rintro _ w14 ⟨rfl,hq5⟩
     have hC26:Ctx Fs.flatten w0 w14 [Ag pb1 [u1,(I x16.2.2.1),(I x16.2.2.2)],Af (.slice (some ⟨b3,0,none⟩) 3 3) ([(-1),3,10]:(List Int)),Ag b2 [(I x1.1.1),v2],Af v2 (x1.1.2:(List Int)),Ag b1 [(I 0),(.slice none 0 0)]]:=hb4 _ _ hq5
     refine Ab<|wAS (l':=[(0,(ptr pb1 0)),(1,u2),(4,(ptr b1 0)),(5,(ptr b2 0)),(6,(ptr pb1 0)),(7,u2),(8,(.agg #[(I x1.1.1),v2])),(9,(ptr pb1 0)),(10,(I x2.1)),(11,(.bool (decide (x2.1=0)))),(12,(.bool (decide (x2.1=0)))),(17,(.bool (decide (x2.1=1)))),(18,(.bool (decide (x2.1=1)))),(19,(ptr b2 1)),(21,(ptr pb1 0)),(22,(.slice (some ⟨b3,0,none⟩) 3 3)),(23,(I x16.1))]) ⟨z,z,z,z,z,z,z,z,z,z,z,z,z,z,z,z,z,Aj⟩<|Bq [⟨1,[],fun vs=>Ba v2,[]⟩,⟨5,[],fun vs=>CU ([x16.1]:(List Int)),[]⟩] [[],[]] 3 z (by kernel_rfl) (by kernel_rfl) z ?_ ?_
     ·refine An z ?_ ?_
      ·intro w16 hB9
       refine At<|⟨_,z,?_⟩
       exact Aq (hC26.grow hB9) 2 z z AM z z<|Ab<|Aw (Al _ _) z z ⟨z,z⟩
      refine An z ?_ ?_
      ·intro w16 hB9
       refine At<|⟨_,z,?_⟩
       refine AC (vs:=[(I x16.1)]) (A5 w16) Ak ty3 z z z z (fac z<|fa0) z z (fun b4 w15 hC27 hB8=>?_)
       have hC28:=hC27.row0 (α:=Int)
       have hC29:=hC28.triv (Bx (x16.1))
       have hC30:=hC29.row1
       have hC31:=hC30.front 1 z
       dsimp only [List.eraseIdx,List.cons_append,List.nil_append,List.append_nil] at hC31
       have hC32:Ctx [] w16 w15 (Af (.slice (some ⟨b4,0,none⟩) 1 1) ([x16.1]:List Int)::[]):=hC31.rowOwn (by simp [maxLen])
       exact Ab<|Da hC32 z z (fun F h=>h)
      exact Bj
     intro w17 hB10
     refine Ar z z z ?_
     rintro _ _ ⟨rfl,rfl⟩
     refine Ar z z z fun v6 F1 hv1=>Bt fun hn5 hb5=>?_
     have hC33:=hC26.pushL hB10 (Bs:=[Af v6 ([x16.1]:(List Int))]) (Fs:=[F1]) ⟨F1,_,z,hv1,z⟩ (by simpa using hn5) (fun b h=>(hb5 b (by simpa using h)).1)
     refine be hr6 fun x17 hx1 hr6=>oe 6 z<|BF (α:=Int) hC33 4 z (hC33.ro 0 z) (A1 _ _) Ak ty3 z hx1 z z z fun v7 w18 hC34=>?_
     try dsimp only [List.set] at hC34
     refine Ab<|tf 7 AQ Az z z z z z<|oe 8 z<|B9 (cs':=[(I x1.1.1),v7]) hC34 3 z z (B0 (hC34.ro 4 z)) z Az z z fun w19 hC35 hKp3=>?_
     try dsimp only [List.set] at hC35
     refine Ab<|dn<|?_
     obtain rfl:=Aa hr6
     have hC36:=hC35.f5
     have hC37:=hC36.f5
     have hC38:=hC37.f5
     have hC39:=hC38.f4
     have hC40:=hC39.h4
     exact Am (l':=[(4,(ptr b1 0)),(5,(ptr b2 0))]) ⟨z,z,Aj⟩<|⟨x16.2.2.1,x16.2.2.2,x1.1.1,v7,x17,z,z,hC40⟩
    rintro l3 _ w11 hs3 ⟨x12,x13,x14,v5,x15,rfl,rfl,hC13⟩
    try dsimp only at hr5
    obtain rfl:=Aa hr5
    exact Cm (l2:=[(4,(ptr b1 0)),(5,(ptr b2 0))]) hs3 ⟨z,z,Aj⟩<|⟨x12,x13,x14,v5,x15,z,z,hC13⟩
   replace hr5:=A8 hr5 hc2
   refine AF ?_
   obtain rfl:=Aa hr5
   exact Am (l':=[(4,(ptr b1 0)),(5,(ptr b2 0))]) ⟨z,z,Aj⟩<|⟨x2.2.2.1,x2.2.2.2,x1.1.1,v2,x1.1.2,z,z,hC8⟩
  rintro l2 _ w10 hs2 ⟨x8,x9,x10,v4,x11,rfl,rfl,hC12⟩
  try dsimp only at hr3
  obtain rfl:=Aa hr3
  exact Cm (l2:=[(4,(ptr b1 0)),(5,(ptr b2 0))]) hs2 ⟨z,z,Aj⟩<|⟨x8,x9,x10,v4,x11,z,z,hC12⟩
 rintro l1 _ w6 hs1 ⟨x3,x4,x5,v3,x6,rfl,rfl,hC9⟩
 try dsimp only at hF
 refine AU<|AY hs1<|?_
 clear hs1
 refine Ac<|Au [(I x5),v3] hC9 1 z z z Bu AV z z<|AA (cs':=[(I x5),v3]) (new:=[(I x5),v3]) hC9 3 z z (fac z<|fac (B0 (hC9.ro 2 z))<|fa0) z AV z z fun w20 hC41 hKp4=>?_
 try dsimp only [List.set] at hC41
 refine Ab (AL ?_)
 obtain rfl:=Aa hF
 refine Cq z (rv_cell_agg (cs':=[(I x5),v3]) hC41 (i:=3) z z z Bu AV z)<|have hC43:=hC41.f2;?_
 have hC42:=own_st44 x5 v3 x6 hC43
 have hC44:=hC42.h2
 exact ⟨_,z,_,z,hC44⟩
end Go.Gx.Px
