/- The contracts of the Go functions against the pure functions, printed by program. Conditions: each says them. -/
import Derived.Test.YthidohmobbomfaaGreatC1
set_option linter.unusedVariables false
set_option linter.unusedSimpArgs false
set_option maxRecDepth 100000
set_option maxHeartbeats 4000000
namespace Go.Gx.Px
open Go.Proofs Go.RowKit
open K9
theorem c_S_l5AnyMethod {w0:World} {Fs:List Tn} (pb1:Nat) (a1:Ti) (u1:Value) (g1:RO Fs.flatten w0 u1 a1.1) (a2:Ta) (u2:Value) (g2:RO Fs.flatten w0 u2 a2) (hH:Hold [Ah pb1 [u1,(I a1.2.1),(I a1.2.2)]] w0 Fs) (hn:Fs.flatten.Nodup) (rr:Tq) (hF:S.l5AnyMethod a1 a2=some rr) :
 Calls Tryz.prog 165 [(ptr pb1 0),u2].toArray w0 fun e w'=>∃v,e=.returned v∧∃q0:Value,v=q0∧Ctx Fs.flatten w0 w' [Ad q0 (rr.1:Te),Ah pb1 [u1,(I rr.2.2.1),(I rr.2.2.2)]]:=by
 refine Av Tryz.func165 z z ?_
 have hC0:=B7 hH hn
 unfold S.l5AnyMethod at hF
 refine Ac<|Bq hC0 zero110 z z fun b1 w1 hC1 hB1 hN1=>Aa<|Ac<|B4 (vs:=[(4,(I 1))]) z z z (built110_4 z)<|Bq hC1 zero110 z z fun b2 w2 hC2 hB2 hN2=>AE (cs':=[(I 0),(.slice none 0 0),(I 0),(I 0),(I 1)]) (new:=[(I 0),(.slice none 0 0),(I 0),(I 0),(I 1)]) hC2 0 z z (fac z<|fac z<|fac z<|fac z<|fac z<|fa0) z B6 z z fun w3 hC3 hKp1=>?_
 try dsimp only [List.set] at hC3
 have hk1:=AV ((Ao hB1).then hB2) (Bl (Ao hB1).size hN2) hKp1
 have hk2:=AV (Ao hB2) hN2 hKp1
 refine Aa<|A0<|Ac<|Ae z z<|be hF fun x1 hr1 hF=>cb Cf z z (c_S_IsSchema a2 u2 (g2.now hC3.keep) x1 hr1) fun w4 hB3=>have hC4:=hC3.grow hB3;Aa<|be hF fun r1 hr2 hF=>wN (fun l w=>∃x2:Int,∃v1:Value,∃x3:Ta,∃x4:Int,∃x5:Int,∃x6:Int,∃x7:Int,∃x8:Int,(x2,x3,x4,x5,x6,x7,x8)=r1∧l=[(0,(ptr pb1 0)),(4,(ptr b1 0)),(5,(ptr b2 0))]∧Ctx Fs.flatten w0 w [Ad v1 x3,Ah b2 [(I x2),v1,(I x4),(I x5),(I x6)],Ah b1 [(I 0),(.slice none 0 0),(I 0),(I 0),(I 0)],Ah pb1 [u1,(I x7),(I x8)]]) ?_ ?_
 ·refine wc hr2 z (fun hr2=>?_) fun hr2=>?_
  ·refine AL<|Ae z z<|Ae z z<|be hr2 fun x9 hr3 hr2=>have hC6:=hC4.f2;?_
   obtain ⟨Fs1,hH1,hn1,hF1,hO1,hb1⟩:=hC6.lB
   refine AA Tryz.call203 z z (c_S_l5Method pb1 (a1.1,a1.2.1,a1.2.2) u1 (Bd g1 hC6.keep hF1) a2 u2 (Bd g2 hC6.keep hF1) hH1 hn1 x9 hr3) ?_
   rintro v2 w6 ⟨_,rfl,hq1⟩
   have hC7:=hb1 _ _ _ hq1
   obtain ⟨v3,rfl,hC8⟩:=st110_own hC7
   refine AE (cs':=[(I x9.1.1),v3,(I x9.1.2.2.1),(I x9.1.2.2.2.1),(I x9.1.2.2.2.2)]) (new:=[(I x9.1.1),v3,(I x9.1.2.2.1),(I x9.1.2.2.2.1),(I x9.1.2.2.2.2)]) hC8 2 z z (fac z<|fac (Br (hC8.ro 0 z))<|fac z<|fac z<|fac z<|fa0) z B6 z z (fun w7 hC9 hKp2=>?_)
   try dsimp only [List.set] at hC9
   refine Aa ?_
   have hC13:=hC9.f1.f3.f3.f3
   exact nS<|⟨x9.1.1,v3,x9.1.2.1,x9.1.2.2.1,x9.1.2.2.2.1,x9.1.2.2.2.2,x9.2.2.1,x9.2.2.2,Ab hr2,z,hC13⟩
  refine A5 ?_
  have hC14:=hC4.triv (nil_val (α:=Int))
  exact nS<|⟨0,(.slice none 0 0),[],0,0,1,a1.2.1,a1.2.2,Ab hr2,z,hC14⟩
 rintro _ w5 ⟨x2,v1,x3,x4,x5,x6,x7,x8,rfl,rfl,hC5⟩
 try dsimp only at hF
 refine A0<|Ac<|Ae z z<|be hF fun x10 hr4 hF=>have hC15:=hC5.f3;?_
 obtain ⟨Fs2,hH2,hn2,hF2,hO2,hb2⟩:=hC15.lA
 refine AA Bp z z (c_S_l1Below pb1 (a1.1,x7,x8) u1 (Bd g1 hC15.keep hF2) 10 hH2 hn2 x10 hr4) ?_
 rintro _ w9 ⟨rfl,hq4⟩
 have hC16:=hb2 _ _ hq4
 refine Aa<|A4<|Ac<|BD z z z<|Af z z<|Aa<|be hF fun r2 hr5 hF=>wB (fun l w=>∃x11:Int,∃x12:Int,∃x13:Int,∃v4:Value,∃x14:Ta,∃x15:Int,∃x16:Int,∃x17:Int,(x11,x12,x13,x14,x15,x16,x17)=r2∧l=[(4,(ptr b1 0)),(5,(ptr b2 0))]∧Ctx Fs.flatten w0 w [Ah pb1 [u1,(I x11),(I x12)],Ad v4 x14,Ah b2 [(I x13),v4,(I x15),(I x16),(I x17)],Ah b1 [(I 0),(.slice none 0 0),(I 0),(I 0),(I 0)]]) ?_ ?_
 ·refine wc hr5 z (fun hr5=>?_) fun hr5=>?_
  ·refine AL<|Ae z z<|Ar (vs:=[(I (-1)),(I 9),(I 10)]) hC16 Ag ty3 z z z z (fac z<|fac z<|fac z<|fa0) z z fun b3 w11 hC18 hB6=>?_
   have hC27:=hC18.row3i
   refine be hr5 fun x18 hr6 hr5=>have hC28:=hC27.f1;?_
   obtain ⟨Fs3,hH3,hn3,hF3,hO3,hb3⟩:=hC28.lA
   refine AA BT z z (c_S_l1PickInt pb1 (a1.1,x10.2.2.1,x10.2.2.2) u1 (Bd g1 hC28.keep hF3) ([(-1),9,10]) (.slice (some ⟨b3,0,none⟩) 3 3) (hO3 0 _ _ _ z) hH3 hn3 x18 hr6) ?_
   rintro _ w12 ⟨rfl,hq5⟩
   have hC29:=hb3 _ _ hq5
   refine fd AI A7 z z z z<|B2 (cs':=[(I x2),v1,(I x18.1),(I x5),(I x6)]) hC29 3 z z z z A7 z z fun w13 hC30 hKp3=>?_
   try dsimp only [List.set] at hC30
   refine Aa ?_
   have hC35:=hC30.f4.f4.f4.f3.h4
   exact nS<|⟨x18.2.2.1,x18.2.2.2,x2,v1,x3,x18.1,x5,x6,Ab hr5,z,hC35⟩
  refine Ac<|BD z z z<|Af z z<|Aa<|be hr5 fun r3 hr7 hr5=>C7 (fun l w=>∃x19:Int,∃x20:Int,∃x21:Int,∃v5:Value,∃x22:Ta,∃x23:Int,∃x24:Int,∃x25:Int,(x19,x20,x21,x22,x23,x24,x25)=r3∧l=[(4,(ptr b1 0)),(5,(ptr b2 0))]∧Ctx Fs.flatten w0 w [Ah pb1 [u1,(I x19),(I x20)],Ad v5 x22,Ah b2 [(I x21),v5,(I x23),(I x24),(I x25)],Ah b1 [(I 0),(.slice none 0 0),(I 0),(I 0),(I 0)]]) ?_ ?_
  ·refine wc hr7 z (fun hr7=>?_) fun hr7=>?_
   ·refine be hr7 fun r4 hr8 hr7=>C7 (fun l w=>∃x26:Int,∃x27:Int,∃x28:Int,∃v6:Value,∃x29:Ta,∃x30:Int,∃x31:Int,∃x32:Int,(x26,x27,x28,x29,x30,x31,x32)=r4∧l=[(4,(ptr b1 0)),(5,(ptr b2 0))]∧Ctx Fs.flatten w0 w [Ah pb1 [u1,(I x26),(I x27)],Ad v6 x29,Ah b2 [(I x28),v6,(I x30),(I x31),(I x32)],Ah b1 [(I 0),(.slice none 0 0),(I 0),(I 0),(I 0)]]) ?_ ?_
    ·refine W_drawn 9 z hmix fun w16 hB9=>have hC38:=hC16.grow hB9;tf 0 AI Aq z z z z z<|tm 2 z z z<|Cx (i:=1) (j:=3) (by kernel_rfl) z z ?_ ?_
     ·refine Al hC38 2 z z Au z z<|Aa<|be hr8 fun x33 hr9 hr8=>oe 3 z<|?_
      obtain ⟨Fs4,hH4,hn4,hF4,hO4,hb4⟩:=hC38.lA
      refine AA Bp z z (c_S_l1Below pb1 (a1.1,x10.2.2.1,x10.2.2.2) u1 (Bd g1 hC38.keep hF4) 5 hH4 hn4 x33 hr9) ?_
      rintro _ w17 ⟨rfl,hq7⟩
      have hC39:=hb4 _ _ hq7
      refine Aa<|tk 4 z z (CO z z)<|Cb z z z<|Aa<|oe 5 z<|Ar (vs:=[(I (w64 (x33.1 - 1)))]) hC39 Ag ty3 z z z z (fac z<|fa0) z z fun b4 w18 hC40 hB10=>?_
      have hC41:=hC40.row0 (α:=Int)
      have hC42:=hC41.triv (Bt (w64 (x33.1 - 1)))
      have hC43:=hC42.row1
      have hC44:=hC43.front 1 z
      dsimp only [List.eraseIdx,List.cons_append,List.nil_append,List.append_nil] at hC44
      have hC45:Ctx Fs.flatten w0 w18 (Ad (.slice (some ⟨b4,0,none⟩) 1 1) ([w64 (x33.1 - 1)]:List Int)::[Ah pb1 [u1,(I x33.2.2.1),(I x33.2.2.2)],Ad v1 x3,Ah b2 [(I x2),v1,(I x4),(I x5),(I x6)],Ah b1 [(I 0),(.slice none 0 0),(I 0),(I 0),(I 0)]]):=hC44.rowOwn (by simp [maxLen])
      refine Aa<|be hr8 fun x34 hx1 hr8=>oe 6 z<|AS (α:=Int) hC45 2 z (hC45.ro 0 z) (Ay _ _) Ag ty3 z hx1 z z z fun v7 w19 hC46=>?_
      try dsimp only [List.set] at hC46
      refine Aa<|tf 7 AI Aq z z z z z<|oe 8 z<|B2 (cs':=[(I x2),v7,(I x4),(I x5),(I x6)]) hC46 3 z z (Br (hC46.ro 2 z)) z Aq z z fun w20 hC47 hKp4=>?_
      try dsimp only [List.set] at hC47
      refine Aa<|dn<|?_
      have hC48:=hC47.f4
      have hC49:=hC48.f4
      have hC50:=hC49.f4
      have hC51:=hC50.f4
      have hC52:=hC51.h4
      exact nS<|⟨x33.2.2.1,x33.2.2.2,x2,v7,x34,x4,x5,x6,Ab hr8,z,hC52⟩
     obtain ⟨x33,hr9,hr8⟩:=bind_some hr8
     obtain ⟨Fs4,hH4,hn4,hF4,hO4,hb4⟩:=hC38.lA
     refine AA Bp z z (c_S_l1Below pb1 (a1.1,x10.2.2.1,x10.2.2.2) u1 (Bd g1 hC38.keep hF4) 5 hH4 hn4 x33 hr9) ?_
     rintro _ w17 ⟨rfl,hq7⟩
     have hC39:=hb4 _ _ hq7
     refine Aa<|tk 4 z z (CO z z)<|Cb z z z<|Aa<|wAS (l':=[(0,(ptr pb1 0)),(4,(ptr b1 0)),(5,(ptr b2 0)),(12,(ptr pb1 0)),(13,(I x10.1)),(14,(.bool (decide (x10.1=0)))),(15,(.bool (decide (x10.1=0)))),(20,(.bool (decide (x10.1=1)))),(21,(.bool (decide (x10.1=1)))),(22,(ptr b2 1)),(24,(ptr pb1 0)),(25,(I x33.1)),(26,(I (w64 (x33.1 - 1))))]) ⟨z,z,z,z,z,z,z,z,z,z,z,z,z,A6⟩<|Bg [⟨1,[],fun vs=>AQ v1,[]⟩,⟨5,[],fun vs=>BS ([w64 (x33.1 - 1)]:Ta),[]⟩] [[],[]] 3 z (by kernel_rfl) (by kernel_rfl) z ?_ ?_
     ·refine An z ?_ ?_
      ·intro w19 hB11
       refine At<|⟨_,z,?_⟩
       exact Al (hC39.grow hB11) 2 z z Au z z<|Aa<|A1 (Aj _ _) z z ⟨z,z⟩
      refine An z ?_ ?_
      ·intro w19 hB11
       refine At<|⟨_,z,?_⟩
       refine Ar (vs:=[(I (w64 (x33.1 - 1)))]) (A3 w19) Ag ty3 z z z z (fac z<|fa0) z z (fun b4 w18 hC40 hB10=>?_)
       have hC41:=hC40.row0 (α:=Int)
       have hC42:=hC41.triv (Bt (w64 (x33.1 - 1)))
       have hC43:=hC42.row1
       have hC44:=hC43.front 1 z
       dsimp only [List.eraseIdx,List.cons_append,List.nil_append,List.append_nil] at hC44
       have hC45:Ctx [] w19 w18 (Ad (.slice (some ⟨b4,0,none⟩) 1 1) ([w64 (x33.1 - 1)]:List Int)::[]):=hC44.rowOwn (by simp [maxLen])
       exact Aa<|Co hC45 z z (fun F h=>h)
      exact AX
     intro w20 hB12
     refine Ap z z z ?_
     rintro _ _ ⟨rfl,rfl⟩
     refine Ap z z z fun v7 F1 hv2=>Bm fun hn5 hb5=>?_
     have hC46:=hC39.pushL hB12 (Bs:=[Ad v7 ([w64 (x33.1 - 1)]:Ta)]) (Fs:=[F1]) ⟨F1,_,z,hv2,z⟩ (by simpa using hn5) (fun b h=>(hb5 b (by simpa using h)).1)
     refine be hr8 fun x34 hx1 hr8=>oe 6 z<|AS (α:=Int) hC46 2 z (hC46.ro 0 z) (Ay _ _) Ag ty3 z hx1 z z z fun v8 w21 hC47=>?_
     try dsimp only [List.set] at hC47
     refine Aa<|tf 7 AI Aq z z z z z<|oe 8 z<|B2 (cs':=[(I x2),v8,(I x4),(I x5),(I x6)]) hC47 3 z z (Br (hC47.ro 2 z)) z Aq z z fun w22 hC48 hKp4=>?_
     try dsimp only [List.set] at hC48
     refine Aa<|dn<|?_
     have hC49:=hC48.f4
     have hC50:=hC49.f4
     have hC51:=hC50.f4
     have hC52:=hC51.f4
     have hC53:=hC52.h4
     exact nS<|⟨x33.2.2.1,x33.2.2.2,x2,v8,x34,x4,x5,x6,Ab hr8,z,hC53⟩
    rintro l4 _ w15 hs4 ⟨x26,x27,x28,v6,x29,x30,x31,x32,rfl,rfl,hC37⟩
    try dsimp only at hr7
    obtain rfl:=Ab hr7
    exact Cq (l2:=[(4,(ptr b1 0)),(5,(ptr b2 0))]) hs4 ⟨z,z,A6⟩<|⟨x26,x27,x28,v6,x29,x30,x31,x32,z,z,hC37⟩
   refine Ac<|BD z z z<|Af z z<|Aa<|be hr7 fun r5 hr10 hr7=>C7 (fun l w=>∃x35:Int,∃x36:Int,∃x37:Int,∃v9:Value,∃x38:Ta,∃x39:Int,∃x40:Int,∃x41:Int,(x35,x36,x37,x38,x39,x40,x41)=r5∧l=[(4,(ptr b1 0)),(5,(ptr b2 0))]∧Ctx Fs.flatten w0 w [Ah pb1 [u1,(I x35),(I x36)],Ad v9 x38,Ah b2 [(I x37),v9,(I x39),(I x40),(I x41)],Ah b1 [(I 0),(.slice none 0 0),(I 0),(I 0),(I 0)]]) ?_ ?_
   ·refine wc hr10 z (fun hr10=>?_) fun hr10=>?_
    ·refine AL<|Ae z z<|Ar (vs:=[(I 0),(I 99),(I 100)]) hC16 Ag ty3 z z z z (fac z<|fac z<|fac z<|fa0) z z fun b5 w24 hC55 hB14=>?_
     have hC64:=hC55.row3i
     refine be hr10 fun x42 hr11 hr10=>have hC65:=hC64.f1;?_
     obtain ⟨Fs5,hH5,hn6,hF5,hO5,hb6⟩:=hC65.lA
     refine AA BT z z (c_S_l1PickInt pb1 (a1.1,x10.2.2.1,x10.2.2.2) u1 (Bd g1 hC65.keep hF5) ([0,99,100]) (.slice (some ⟨b5,0,none⟩) 3 3) (hO5 0 _ _ _ z) hH5 hn6 x42 hr11) ?_
     rintro _ w25 ⟨rfl,hq10⟩
     have hC66:=hb6 _ _ hq10
     refine fd AI A7 z z z z<|B2 (cs':=[(I x2),v1,(I x4),(I x5),(I x42.1)]) hC66 3 z z z z A7 z z fun w26 hC67 hKp5=>?_
     try dsimp only [List.set] at hC67
     refine Aa ?_
     have hC72:=hC67.f4.f4.f4.f3.h4
     exact nS<|⟨x42.2.2.1,x42.2.2.2,x2,v1,x3,x4,x5,x42.1,Ab hr10,z,hC72⟩
    refine Ac<|BD z z z<|Af z z<|Aa<|be hr10 fun r6 hr12 hr10=>C7 (fun l w=>∃x43:Int,∃x44:Int,∃x45:Int,∃v10:Value,∃x46:Ta,∃x47:Int,∃x48:Int,∃x49:Int,(x43,x44,x45,x46,x47,x48,x49)=r6∧l=[(4,(ptr b1 0)),(5,(ptr b2 0))]∧Ctx Fs.flatten w0 w [Ah pb1 [u1,(I x43),(I x44)],Ad v10 x46,Ah b2 [(I x45),v10,(I x47),(I x48),(I x49)],Ah b1 [(I 0),(.slice none 0 0),(I 0),(I 0),(I 0)]]) ?_ ?_
    ·refine wc hr12 z (fun hr12=>?_) fun hr12=>?_
     ·refine AL<|Ae z z<|Ar (vs:=[(I (-1)),(I 99),(I 100)]) hC16 Ag ty3 z z z z (fac z<|fac z<|fac z<|fa0) z z fun b6 w28 hC74 hB16=>?_
      have hC83:=hC74.row3i
      refine be hr12 fun x50 hr13 hr12=>have hC84:=hC83.f1;?_
      obtain ⟨Fs6,hH6,hn7,hF6,hO6,hb7⟩:=hC84.lA
      refine AA BT z z (c_S_l1PickInt pb1 (a1.1,x10.2.2.1,x10.2.2.2) u1 (Bd g1 hC84.keep hF6) ([(-1),99,100]) (.slice (some ⟨b6,0,none⟩) 3 3) (hO6 0 _ _ _ z) hH6 hn7 x50 hr13) ?_
      rintro _ w29 ⟨rfl,hq12⟩
      have hC85:=hb7 _ _ hq12
      refine fd AI A7 z z z z<|B2 (cs':=[(I x2),v1,(I x4),(I x50.1),(I x6)]) hC85 3 z z z z A7 z z fun w30 hC86 hKp6=>?_
      try dsimp only [List.set] at hC86
      refine Aa ?_
      have hC91:=hC86.f4.f4.f4.f3.h4
      exact nS<|⟨x50.2.2.1,x50.2.2.2,x2,v1,x3,x4,x50.1,x6,Ab hr12,z,hC91⟩
     exact A5<|nS<|⟨x10.2.2.1,x10.2.2.2,x2,v1,x3,x4,x5,x6,Ab hr12,z,hC16⟩
    rintro l6 _ w27 hs6 ⟨x43,x44,x45,v10,x46,x47,x48,x49,rfl,rfl,hC73⟩
    try dsimp only at hr10
    obtain rfl:=Ab hr10
    exact Cq (l2:=[(4,(ptr b1 0)),(5,(ptr b2 0))]) hs6 ⟨z,z,A6⟩<|⟨x43,x44,x45,v10,x46,x47,x48,x49,z,z,hC73⟩
   rintro l5 _ w23 hs5 ⟨x35,x36,x37,v9,x38,x39,x40,x41,rfl,rfl,hC54⟩
   try dsimp only at hr7
   obtain rfl:=Ab hr7
   exact Cq (l2:=[(4,(ptr b1 0)),(5,(ptr b2 0))]) hs5 ⟨z,z,A6⟩<|⟨x35,x36,x37,v9,x38,x39,x40,x41,z,z,hC54⟩
  rintro l3 _ w14 hs3 ⟨x19,x20,x21,v5,x22,x23,x24,x25,rfl,rfl,hC36⟩
  try dsimp only at hr5
  obtain rfl:=Ab hr5
  exact Cq (l2:=[(4,(ptr b1 0)),(5,(ptr b2 0))]) hs3 ⟨z,z,A6⟩<|⟨x19,x20,x21,v5,x22,x23,x24,x25,z,z,hC36⟩
 rintro _ w10 ⟨x11,x12,x13,v4,x14,x15,x16,x17,rfl,rfl,hC17⟩
 try dsimp only at hF
 refine Ac<|Az [(I x13),v4,(I x15),(I x16),(I x17)] hC17 2 z z z BU B6 z z<|AE (cs':=[(I x13),v4,(I x15),(I x16),(I x17)]) (new:=[(I x13),v4,(I x15),(I x16),(I x17)]) hC17 3 z z (fac z<|fac (Br (hC17.ro 1 z))<|fac z<|fac z<|fac z<|fa0) z B6 z z fun w31 hC92 hKp7=>?_
 try dsimp only [List.set] at hC92
 refine Aa (AF ?_)
 obtain rfl:=Ab hF
 refine BY z (rv_cell_agg (cs':=[(I x13),v4,(I x15),(I x16),(I x17)]) hC92 (i:=3) z z z BU B6 z)<|have hC94:=hC92.f1;?_
 have hC93:=own_st110 x13 v4 x14 x15 x16 x17 hC94
 have hC95:=hC93.h2
 exact ⟨_,z,_,z,hC95⟩
theorem c_S_l2AnySchema {w0:World} {Fs:List Tn} (pb1:Nat) (a1:Ti) (u1:Value) (g1:RO Fs.flatten w0 u1 a1.1) (hH:Hold [Ah pb1 [u1,(I a1.2.1),(I a1.2.2)]] w0 Fs) (hn:Fs.flatten.Nodup) (rr:(Ta × Ti)) (hF:S.l2AnySchema a1=some rr) :
 Calls Tryz.prog 166 [(ptr pb1 0)].toArray w0 fun e w'=>∃v,e=.returned v∧∃q0:Value,v=q0∧Ctx Fs.flatten w0 w' [Ad q0 (rr.1:Ta),Ah pb1 [u1,(I rr.2.2.1),(I rr.2.2.2)]]:=by
 refine Av Tryz.func166 z z ?_
 have hC0:=B7 hH hn
 unfold S.l2AnySchema at hF
 refine Ac<|Af z z<|Aa<|Ac<|Ae z z<|be hF fun x1 hr1 hF=>?_
 obtain ⟨Fs1,hH1,hn1,hF1,hO1,hb1⟩:=hC0.lB
 refine AA Tryz.call162 z z (c_S_l2Schema pb1 (a1.1,a1.2.1,a1.2.2) u1 (Bd g1 hC0.keep hF1) hH1 hn1 x1 hr1) ?_
 rintro v1 w1 ⟨_,rfl,hq1⟩
 have hC1:=hb1 _ _ _ hq1
 refine Af z z<|Aa<|A0<|Ac<|Ae z z<|be hF fun x2 hr2 hF=>have hC2:=hC1.f1;?_
 obtain ⟨Fs2,hH2,hn2,hF2,hO2,hb2⟩:=hC2.lA
 refine AA Cp z z (c_S_l1Once pb1 (a1.1,x1.2.2.1,x1.2.2.2) u1 (Bd g1 hC2.keep hF2) 14 hH2 hn2 x2 hr2) ?_
 rintro _ w2 ⟨rfl,hq2⟩
 have hC3:=hb2 _ _ hq2
 refine Aa<|be hF fun r1 hr3 hF=>wN (fun l w=>∃x3:Int,∃x4:Int,∃v2:Value,∃x5:Ta,(x3,x4,x5)=r1∧l=[(3,v2)]∧Ctx Fs.flatten w0 w [Ah pb1 [u1,(I x3),(I x4)],Ad v2 x5]) ?_ ?_
 ·refine wc hr3 z (fun hr3=>?_) fun hr3=>?_
  ·refine AL<|Ae z z<|Ae z z<|Ar (vs:=[(I 0),(I 1),(I 4)]) hC3 Ag ty3 z z z z (fac z<|fac z<|fac z<|fa0) z z fun b1 w4 hC5 hB2=>?_
   have hC14:=hC5.row3i
   refine be hr3 fun x6 hr4 hr3=>have hC15:=hC14.f1;?_
   obtain ⟨Fs3,hH3,hn3,hF3,hO3,hb3⟩:=hC15.lA
   refine AA BT z z (c_S_l1PickInt pb1 (a1.1,x2.2.2.1,x2.2.2.2) u1 (Bd g1 hC15.keep hF3) ([0,1,4]) (.slice (some ⟨b1,0,none⟩) 3 3) (hO3 0 _ _ _ z) hH3 hn3 x6 hr4) ?_
   rintro _ w5 ⟨rfl,hq3⟩
   have hC16:=hb3 _ _ hq3
   refine Ar (vs:=[(I x6.1)]) hC16 Ag ty3 z z z z (fac z<|fa0) z z (fun b2 w6 hC17 hB3=>?_)
   have hC22:=hC17.row1i
   refine be hr3 fun x7 hx1 hr3=>AS (α:=Int) hC22 3 z (hC22.ro 0 z) (Ay _ _) Ag ty3 z hx1 z z z fun v3 w7 hC23=>?_
   try dsimp only [List.set] at hC23
   refine Af z z<|Aa<|?_
   have hC26:=hC23.f3.f2.h2
   exact nS<|⟨x6.2.2.1,x6.2.2.2,v3,x7,Ab hr3,z,hC26⟩
  exact A5<|nS<|⟨x2.2.2.1,x2.2.2.2,v1,x1.1,Ab hr3,z,hC3⟩
 rintro _ w3 ⟨x3,x4,v2,x5,rfl,rfl,hC4⟩
 try dsimp only at hF
 refine Ac<|Ae z z<|Af z z<|Aa<|AF<|?_
 obtain rfl:=Ab hF
 exact BI z z<|have hC27:=hC4.f1;⟨_,z,_,z,hC27⟩
theorem c_S_l5Draw {w0:World} {Fs:List Tn} (pb1:Nat) (a1:Ti) (u1:Value) (g1:RO Fs.flatten w0 u1 a1.1) (hH:Hold [Ah pb1 [u1,(I a1.2.1),(I a1.2.2)]] w0 Fs) (hn:Fs.flatten.Nodup) (rr:(Ta × Tf × Tc × Ti)) (hF:S.l5Draw a1=some rr) :
 Calls Tryz.prog 110 [(ptr pb1 0)].toArray w0 fun e w'=>∃v,e=.returned v∧∃q0:Value,∃q1:Value,∃q2:Value,v=(.tuple #[q0,q1,q2])∧Ctx Fs.flatten w0 w' [Ad q0 (rr.1:Ta),Ad q1 (rr.2.1:Tf),Ad q2 (rr.2.2.1:Tc),Ah pb1 [u1,(I rr.2.2.2.2.1),(I rr.2.2.2.2.2)]]:=by
 refine Av Tryz.func110 z z ?_
 have hC0:=B7 hH hn
 unfold S.l5Draw at hF
 refine Ac<|Af z z<|Af z z<|Af z z<|Aa<|Ac<|Ae z z<|be hF fun x1 hr1 hF=>?_
 obtain ⟨Fs1,hH1,hn1,hF1,hO1,hb1⟩:=hC0.lB
 refine AA Tryz.call162 z z (c_S_l2Schema pb1 (a1.1,a1.2.1,a1.2.2) u1 (Bd g1 hC0.keep hF1) hH1 hn1 x1 hr1) ?_
 rintro v1 w1 ⟨_,rfl,hq1⟩
 have hC1:=hb1 _ _ _ hq1
 refine Af z z<|Aa<|Ac<|Ae z z<|Ae z z<|be hF fun x2 hr2 hF=>have hC2:=hC1.f1;?_
 obtain ⟨Fs2,hH2,hn2,hF2,hO2,hb2⟩:=hC2.lB
 refine AA Tryz.call163 z z (c_S_l5Methods pb1 (a1.1,x1.2.2.1,x1.2.2.2) u1 (Bd g1 hC2.keep hF2) x1.1 v1 (hO2 0 _ _ _ z) hH2 hn2 x2 hr2) ?_
 rintro v2 w2 ⟨_,rfl,hq2⟩
 have hC3:=hb2 _ _ _ hq2
 refine Af z z<|Aa<|Ac<|Ae z z<|Ae z z<|be hF fun x3 hr3 hF=>have hC4:=hC3.f1;?_
 obtain ⟨Fs3,hH3,hn3,hF3,hO3,hb3⟩:=hC4.lB
 refine AA Tryz.call164 z z (c_S_l2Facts pb1 (a1.1,x2.2.2.1,x2.2.2.2) u1 (Bd g1 hC4.keep hF3) x1.1 v1 (hO3 1 _ _ _ z) 8 hH3 hn3 x3 hr3) ?_
 rintro v3 w3 ⟨_,rfl,hq3⟩
 have hC5:=hb3 _ _ _ hq3
 refine Af z z<|Aa<|A0<|Ac<|Ae z z<|be hF fun x4 hr4 hF=>have hC6:=hC5.f1;?_
 obtain ⟨Fs4,hH4,hn4,hF4,hO4,hb4⟩:=hC6.lA
 refine AA Bp z z (c_S_l1Below pb1 (a1.1,x3.2.2.1,x3.2.2.2) u1 (Bd g1 hC6.keep hF4) 20 hH4 hn4 x4 hr4) ?_
 rintro _ w4 ⟨rfl,hq4⟩
 have hC7:=hb4 _ _ hq4
 refine Aa<|A4<|Ac<|BD z z z<|Af z z<|Aa<|be hF fun r1 hr5 hF=>wB (fun l w=>∃x5:Int,∃x6:Int,∃v4:Value,∃x7:Ta,∃v5:Value,∃x8:Tf,∃v6:Value,∃x9:Tc,(x5,x6,x7,x8,x9)=r1∧l=[(5,v4),(6,v5),(7,v6)]∧Ctx Fs.flatten w0 w [Ah pb1 [u1,(I x5),(I x6)],Ad v6 x9,Ad v5 x8,Ad v4 x7]) ?_ ?_
 ·refine wc hr5 z (fun hr5=>?_) fun hr5=>?_
  ·refine AL<|Ae z z<|Ae z z<|Ae z z<|be hr5 fun x10 hr6 hr5=>?_
   obtain ⟨Fs5,hH5,hn5,hF5,hO5,hb5⟩:=hC7.lB
   refine AA Tryz.call165 z z (c_S_l5AnyMethod pb1 (a1.1,x4.2.2.1,x4.2.2.2) u1 (Bd g1 hC7.keep hF5) x1.1 v1 (hO5 2 _ _ _ z) hH5 hn5 x10 hr6) ?_
   rintro v7 w6 ⟨_,rfl,hq5⟩
   have hC9:=hb5 _ _ _ hq5
   obtain ⟨v8,rfl,hC10⟩:=st110_own hC9
   refine Ar (vs:=[(.agg #[(I x10.1.1),v8,(I x10.1.2.2.1),(I x10.1.2.2.2.1),(I x10.1.2.2.2.2)])]) hC10 Bh ty110 z z z z (fac z<|fa0) z z (fun b1 w7 hC11 hB2=>?_)
   have hC12:=hC11.row0 (α:=Te)
   have hC14:=hC12.f2
   have hC13:=own_st110 x10.1.1 v8 x10.1.2.1 x10.1.2.2.1 x10.1.2.2.2.1 x10.1.2.2.2.2 hC14
   have hC15:=hC13.row1
   have hC16:=hC15.front 1 z
   dsimp only [List.eraseIdx,List.cons_append,List.nil_append,List.append_nil] at hC16
   have hC17:Ctx Fs.flatten w0 w7 (Ad (.slice (some ⟨b1,0,none⟩) 1 1) ([(x10.1.1,x10.1.2.1,x10.1.2.2.1,x10.1.2.2.2.1,x10.1.2.2.2.2)]:List Te)::[Ah pb1 [u1,(I x10.2.2.1),(I x10.2.2.2)],Ad v3 x3.1,Ad v2 x2.1,Ad v1 x1.1]):=hC16.rowOwn (by simp [maxLen])
   refine be hr5 fun x11 hx1 hr5=>Bf hC17 2 z Bh ty110 z hx1 z z z fun v9 w9 hC18=>?_
   try dsimp only [List.set] at hC18
   exact Af z z<|Aa<|nS<|⟨x10.2.2.1,x10.2.2.2,v1,x1.1,v9,x11,v3,x3.1,Ab hr5,z,hC18⟩
  refine Ac<|BD z z z<|Af z z<|Aa<|be hr5 fun r2 hr7 hr5=>C7 (fun l w=>∃x12:Int,∃x13:Int,∃v10:Value,∃x14:Ta,∃v11:Value,∃x15:Tc,(x12,x13,x14,x15)=r2∧l=[(5,v10),(6,v2),(7,v11)]∧Ctx Fs.flatten w0 w [Ah pb1 [u1,(I x12),(I x13)],Ad v11 x15,Ad v2 x2.1,Ad v10 x14]) ?_ ?_
  ·refine wc hr7 z (fun hr7=>?_) fun hr7=>?_
   ·refine AL<|Ae z z<|Ae z z<|be hr7 fun x16 hr8 hr7=>?_
    obtain ⟨Fs6,hH6,hn6,hF6,hO6,hb6⟩:=hC7.lB
    refine AA Tryz.call116 z z (c_S_l2AnyFacts pb1 (a1.1,x4.2.2.1,x4.2.2.2) u1 (Bd g1 hC7.keep hF6) x1.1 v1 (hO6 2 _ _ _ z) hH6 hn6 x16 hr8) ?_
    rintro v12 w11 ⟨_,rfl,hq7⟩
    have hC21:=hb6 _ _ _ hq7
    refine Af z z<|Aa<|?_
    have hC26:=hC21.f4.f4.f2.f3.h4
    exact nS<|⟨x16.2.2.1,x16.2.2.2,v1,x1.1,v12,x16.1,Ab hr7,z,hC26⟩
   refine Ac<|BD z z z<|Af z z<|Aa<|be hr7 fun r3 hr9 hr7=>C7 (fun l w=>∃x17:Int,∃x18:Int,∃v13:Value,∃x19:Ta,(x17,x18,x19)=r3∧l=[(5,v13),(6,v2),(7,v3)]∧Ctx Fs.flatten w0 w [Ah pb1 [u1,(I x17),(I x18)],Ad v3 x3.1,Ad v2 x2.1,Ad v13 x19]) ?_ ?_
   ·refine wc hr9 z (fun hr9=>?_) fun hr9=>?_
    ·refine AL<|Ae z z<|be hr9 fun x20 hr10 hr9=>?_
     obtain ⟨Fs7,hH7,hn7,hF7,hO7,hb7⟩:=hC7.lB
     refine AA Tryz.call166 z z (c_S_l2AnySchema pb1 (a1.1,x4.2.2.1,x4.2.2.2) u1 (Bd g1 hC7.keep hF7) hH7 hn7 x20 hr10) ?_
     rintro v14 w13 ⟨_,rfl,hq9⟩
     have hC28:=hb7 _ _ _ hq9
     refine Af z z<|Aa<|?_
     have hC32:=hC28.f3.f3.f3.h4
     exact nS<|⟨x20.2.2.1,x20.2.2.2,v14,x20.1,Ab hr9,z,hC32⟩
    exact A5<|nS<|⟨x4.2.2.1,x4.2.2.2,v1,x1.1,Ab hr9,z,hC7⟩
   rintro l3 _ w12 hs3 ⟨x17,x18,v13,x19,rfl,rfl,hC27⟩
   try dsimp only at hr7
   obtain rfl:=Ab hr7
   exact Cq (l2:=[(5,v13),(6,v2),(7,v3)]) hs3 ⟨z,z,z,A6⟩<|⟨x17,x18,v13,x19,v3,x3.1,z,z,hC27⟩
  rintro l2 _ w10 hs2 ⟨x12,x13,v10,x14,v11,x15,rfl,rfl,hC20⟩
  try dsimp only at hr5
  obtain rfl:=Ab hr5
  exact Cq (l2:=[(5,v10),(6,v2),(7,v11)]) hs2 ⟨z,z,z,A6⟩<|⟨x12,x13,v10,x14,v2,x2.1,v11,x15,z,z,hC20⟩
 rintro _ w5 ⟨x5,x6,v4,x7,v5,x8,v6,x9,rfl,rfl,hC8⟩
 try dsimp only at hF
 refine Ac<|Ae z z<|Ae z z<|Ae z z<|Af z z<|Af z z<|Af z z<|Aa<|AF<|?_
 obtain rfl:=Ab hF
 exact C1 z z z z<|have hC33:=hC8.f1;have hC34:=hC33.f2;have hC35:=hC34.f3;⟨_,z,_,_,_,z,hC35⟩
theorem c_S_l5Access {w0:World} {Fs:List Tn} (pb1:Nat) (a1:Ti) (u1:Value) (g1:RO Fs.flatten w0 u1 a1.1) (a2:Tf) (u2:Value) (g2:RO Fs.flatten w0 u2 a2) (hH:Hold [Ah pb1 [u1,(I a1.2.1),(I a1.2.2)]] w0 Fs) (hn:Fs.flatten.Nodup) (rr:Tp) (hF:S.l5Access a1 a2=some rr) :
 Calls Tryz.prog 112 [(ptr pb1 0),u2].toArray w0 fun e w'=>∃v,e=.returned v∧∃q0:Value,v=q0∧Ctx Fs.flatten w0 w' [Ad q0 (rr.1:Tb),Ah pb1 [u1,(I rr.2.2.1),(I rr.2.2.2)]]:=by
 refine Av Tryz.func112 z z ?_
 have hC0:=B7 hH hn
 unfold S.l5Access at hF
 refine Ac<|Bq hC0 zero82 z z fun b1 w1 hC1 hB1 hN1=>Aa<|A0<|Ac<|Ae z z<|AH Bh g2 z z<|BD z z z<|Aa<|wc hF z (fun hF=>?_) fun hF=>?_
 ·refine Ac<|B4 (vs:=[]) z z z built82<|AE (cs':=[(I 0),(.slice none 0 0)]) (new:=[(I 0),(.slice none 0 0)]) hC1 0 z z (fac z<|fac z<|fa0) z AP z z fun w2 hC2 hKp1=>?_
  try dsimp only [List.set] at hC2
  have hk1:=AV (Ao hB1) hN1 hKp1
  refine Aa (AF (Ax ?_))
  obtain rfl:=Ab hF
  refine BY z (rv_cell_agg (cs':=[(I 0),(.slice none 0 0)]) hC2 (i:=0) z z z Bu AP z)<|have hC3:=hC2.f1;?_
  have hC5:=hC3.triv (nil_val (α:=Int))
  have hC4:=Dk 0 (.slice none 0 0) ([]) hC5
  have hC6:=hC4.h2
  exact ⟨_,z,_,z,hC6⟩
 refine A5<|Am<|Ac<|Ae z z<|Ae z z<|AH Bh g2 z z<|be hF fun x1 hr1 hF=>have hC7:=hC1.f1;?_
 obtain ⟨Fs1,hH1,hn1,hF1,hO1,hb1⟩:=hC7.lA
 refine AA Bp z z (c_S_l1Below pb1 (a1.1,a1.2.1,a1.2.2) u1 (Bd g1 hC7.keep hF1) (List.length a2:Int) hH1 hn1 x1 hr1) ?_
 rintro _ w3 ⟨rfl,hq2⟩
 have hC8:=hb1 _ _ hq2
 refine B4 (vs:=[(0,(I x1.1))]) z z z (built82_0 z)<|Bq hC8 zero82 z z fun b2 w4 hC9 hB2 hN2=>AE (cs':=[(I x1.1),(.slice none 0 0)]) (new:=[(I x1.1),(.slice none 0 0)]) hC9 0 z z (fac z<|fac z<|fa0) z AP z z fun w5 hC10 hKp2=>?_
 try dsimp only [List.set] at hC10
 have hk2:=AV (Ao hB2) hN2 hKp2
 refine Aa<|A0<|Ac<|Af z z<|Aa<|be hF fun r1 hr2 hF=>wN (fun l w=>∃x7:Int,∃v2:Value,∃x8:Ta,∃x9:Int,∃x10:Int,(x7,x8,x9,x10)=r1∧l=[(4,(ptr b1 0)),(5,(ptr b2 0))]∧Ctx Fs.flatten w0 w [Ad v2 x8,Ah b2 [(I x7),v2],Ah pb1 [u1,(I x9),(I x10)],Ah b1 [(I 0),(.slice none 0 0)]]) ?_ ?_
 ·refine A4 ?_
  have hC27:=hC10.triv (nil_val (α:=Int))
  refine wT<|Bj (fun k l w=>∃x2:Int,∃v1:Value,∃x3:Ta,∃x4:Int,∃x5:Int,∃x6:Int,l=[(0,(ptr pb1 0)),(1,u2),(4,(ptr b1 0)),(5,(ptr b2 0)),(6,(I x6))]∧Ctx Fs.flatten w0 w [Ad v1 x3,Ah b2 [(I x2),v1],Ah pb1 [u1,(I x4),(I x5)],Ah b1 [(I 0),(.slice none 0 0)]]∧S.l5Access_l1 a2 a1 k x2 x3 x4 x5 x6=some r1) FUEL ⟨x1.1,(.slice none 0 0),[],x1.2.2.1,x1.2.2.2,0,z,hC27,hr2⟩<|?_
  clear hr2
  rintro k1 _ w6 ⟨x2,v1,x3,x4,x5,x6,rfl,hC11,hL1⟩
  obtain _|k1:=k1<;>rw [S.l5Access_l1] at hL1
  ·cases hL1
  refine A0<|Ac<|Ae z z<|Ae z z<|fd AO A7 z z z z<|Al hC11 1 z z AU z z<|be hL1 fun x11 hx1 hL1=>A9 Bh ty110 g2 hx1 z z z fun b3 o1 h1=>fd AI Aq z z z z<|AD ty24 h1.snd.fst hC11.keep z z fun v3 h2=>AH Ag h2 z z<|AZ z z z<|Aa<|wc hL1 z (fun hL1=>?_) fun hL1=>?_
  ·refine A5<|Am<|A0<|A4<|Ac<|Ae z z<|be hL1 fun x12 hr3 hL1=>have hC12:=hC11.f2;?_
   obtain ⟨Fs2,hH2,hn2,hF2,hO2,hb2⟩:=hC12.lA
   refine AA Bp z z (c_S_l1Below pb1 (a1.1,x4,x5) u1 (Bd g1 hC12.keep hF2) 4 hH2 hn2 x12 hr3) ?_
   rintro _ w7 ⟨rfl,hq3⟩
   have hC13:=hb2 _ _ hq3
   refine Af z z<|Aa<|AL<|fd AO Aq z z z z<|Al hC13 2 z z Au z z<|Ae z z<|Ar (vs:=[(I x12.1)]) hC13 Ag ty3 z z z z (fac z<|fa0) z z fun b4 w9 hC14 hB4=>?_
   have hC19:=hC14.row1i
   refine be hL1 fun x13 hx2 hL1=>AS (α:=Int) hC19 2 z (hC19.ro 0 z) (Ay _ _) Ag ty3 z hx2 z z z fun v4 w10 hC20=>?_
   try dsimp only [List.set] at hC20
   refine fd AO Aq z z z z<|B2 (cs':=[(I x2),v4]) hC20 3 z z (Br (hC20.ro 2 z)) z Aq z z fun w11 hC21 hKp3=>?_
   try dsimp only [List.set] at hC21
   exact Aa<|AN<|Am<|AL<|Ae z z<|AW z z z<|Af z z<|Aa<|have hC22:=hC21.f4;have hC23:=hC22.f2;have hC24:=hC23.f4;have hC25:=hC24.f4;have hC26:=hC25.h4;nS<|⟨k1,Aw _,x2,v4,x13,x12.2.2.1,x12.2.2.2,w64 (x6+1),z,hC26,hL1⟩
  refine Bi (A2 (A2 (AM ?_)))
  exact nS<|⟨x2,v1,x3,x4,x5,Ab hL1,z,hC11⟩
 rintro _ w12 ⟨x7,v2,x8,x9,x10,rfl,rfl,hC28⟩
 try dsimp only at hF
 refine Ac<|Az [(I x7),v2] hC28 1 z z z Bu AP z z<|AE (cs':=[(I x7),v2]) (new:=[(I x7),v2]) hC28 3 z z (fac z<|fac (Br (hC28.ro 0 z))<|fa0) z AP z z fun w13 hC29 hKp4=>?_
 try dsimp only [List.set] at hC29
 refine Aa (AF ?_)
 obtain rfl:=Ab hF
 refine BY z (rv_cell_agg (cs':=[(I x7),v2]) hC29 (i:=3) z z z Bu AP z)<|have hC30:=hC29.f2;have hC32:=hC30.f1;?_
 have hC31:=Dk x7 v2 x8 hC32
 have hC33:=hC31.h2
 exact ⟨_,z,_,z,hC33⟩
theorem c_S_IsAccess {w0:World} (a1:Ta) (u1:Value) (g1:RO [] w0 u1 a1) (a2:Tf) (u2:Value) (g2:RO [] w0 u2 a2) (a3:Tb) (u3:Value) (g3:RO [] w0 u3 a3.2) (rr:Bool) (hF:S.IsAccess a1 a2 a3=some rr) :
 Calls Tryz.prog 201 [u1,u2,(.agg #[(I a3.1),u3])].toArray w0 fun e w'=>∃v,e=.returned v∧Res w0 rr v w':=by
 refine Av Tryz.func201 z z ?_
 have hC0:=A3 w0
 unfold S.IsAccess at hF
 refine Ac<|Be (cs:=[(I a3.1),u3]) hC0 z z z fun b1 w1 hC1 hB1 hN1=>Af z z<|Aa<|A0<|be hF fun r1 hr1 hF=>B9 (fun l w=>∃x1:Bool,x1=r1∧l=[(5,(ptr b1 0)),(33,(.bool x1))]∧Below w1.heap.size w1 w∧Ctx [] w0 w [Ah b1 [(I a3.1),u3]]) ?_ ?_
 ·refine W_drawn 26 z hmix fun w3 hB3=>have hC3:=hC1.grow hB3;tm 0 z z z<|tm 1 z z z<|be hr1 fun x2 hr2 hr1=>oe 2 z<|cb CL z z (c_S_AreMethods a1 u1 (g1.now hC3.keep) a2 u2 (g2.now hC3.keep) x2 hr2) fun w4 hB4=>have hC4:=hC3.grow hB4;Aa<|tk 3 z z (Cw z)<|Bv z z<|Aa<|tm 4 z z z<|BJ (fun hc1=>?_) (fun hc1=>?_)
  ·replace hr1:=Cm hr1 hc1
   exact sk 5 z z z z z<|sk 6 z z z z z<|sk 7 z z z z z<|sk 8 z z z z z<|sk 9 z z z z z<|sk 10 z z z z z<|sk 11 z z z z z<|tp 12 z z z z<|tm 13 z z z<|sk 14 z z z z z<|sk 15 z z z z z<|sk 16 z z z z z<|sk 17 z z z z z<|sk 18 z z z z z<|sk 19 z z z z z<|sk 20 z z z z z<|sk 21 z z z z z<|sk 22 z z z z z<|sk 23 z z z z z<|sk 24 z z z z z<|tp 25 z z z z<|dn<|nS<|⟨true,Ab hr1,z,((Ao hB3).then hB4).below,hC4⟩
  replace hr1:=Cn hr1 hc1
  refine tg 5 z z z z (BC AO z z (fun w=>⟨_,A7 w⟩) z)<|Ai z z<|fd AO A7 z z z z<|Aa<|tn 7 z z z z z<|tg 8 z z z z (fl_len Bh g2 z)<|Ai z z<|AH Bh g2 z z<|Aa<|tg 9 z z z z (CO z z)<|Ai z z<|Cb z z z<|Aa<|oe 6 z<|Ai z z<|Al hC4 0 z z AU z z<|Aa<|be hr1 fun x3 hr3 hr1=>oe 10 z<|Ai z z<|cb BH z z (c_S_l1In a3.1 0 (w64 ((List.length a2:Int) - 1)) x3 hr3) fun w5 hB5=>have hC5:=hC4.grow hB5;Aa<|tg 11 z z z z (Cw z)<|Ai z z<|Bv z z<|Aa<|tq 12 z z z z<|tm 13 z z z<|BJ (fun hc2=>?_) (fun hc2=>?_)
  ·replace hr1:=Cm hr1 hc2
   exact sk 14 z z z z z<|sk 15 z z z z z<|sk 16 z z z z z<|sk 17 z z z z z<|sk 18 z z z z z<|sk 19 z z z z z<|sk 20 z z z z z<|sk 21 z z z z z<|sk 22 z z z z z<|sk 23 z z z z z<|sk 24 z z z z z<|tp 25 z z z z<|dn<|nS<|⟨true,Ab hr1,z,(((Ao hB3).then hB4).then hB5).below,hC5⟩
  replace hr1:=Cn hr1 hc2
  refine tg 14 z z z z (BC AO z z (fun w=>⟨_,Aq w⟩) z)<|Ai z z<|fd AO Aq z z z z<|Aa<|tn 17 z z z z z<|tg 18 z z z z (BC AO z z (fun w=>⟨_,A7 w⟩) z)<|Ai z z<|fd AO A7 z z z z<|Aa<|be hr1 fun x4 hx1 hr1=>wAS (l':=[(0,u1),(1,u2),(2,(.agg #[(I a3.1),u3])),(5,(ptr b1 0)),(6,(.bool false)),(8,u1),(9,u2),(10,(.bool x2)),(11,(.bool (!x2))),(12,(.bool false)),(13,(ptr b1 0)),(14,(I a3.1)),(15,u2),(16,(I (List.length a2:Int))),(17,(I (w64 ((List.length a2:Int) - 1)))),(18,(.bool x3)),(19,(.bool (!x3))),(20,(.bool (!x3))),(21,(.bool false)),(22,(ptr b1 1)),(25,u2),(26,(ptr b1 0))]) ⟨z,z,z,z,z,z,z,z,z,z,z,z,z,z,z,z,z,z,z,z,z,z,A6⟩<|Bg [⟨15,[],fun vs=>AQ u3,[]⟩,⟨16,[],fun vs=>AQ (I (List.length a3.2:Int)),[]⟩,⟨19,[],fun vs=>AQ (I a3.1),[]⟩,⟨20,[],fun vs=>Cd [] w0 x4,[]⟩,⟨21,[],fun vs=>Cd [] w0 x4.2.1,[]⟩,⟨22,[],fun vs=>Cj [] w0 x4.2.1,[]⟩,⟨23,[],fun vs=>AQ (I (List.length x4.2.1:Int)),[]⟩] [[],[15],[],[19],[20],[21],[22]] 2 z (by kernel_rfl) (by kernel_rfl) z ?_ ?_
  ·refine An z ?_ ?_
   ·intro w6 hB6
    refine At<|⟨_,z,?_⟩
    exact Ai z z<|Al (hC5.grow hB6) 0 z z Au z z<|Aa<|A1 (Aj _ _) z z ⟨z,z⟩
   refine An z ?_ ?_
   ·intro w6 hB6
    refine AG z z z ?_
    rintro _ _ ⟨rfl,rfl⟩ _
    refine At<|⟨_,z,?_⟩
    exact Ai z z<|AH Ag g3 z z<|Aa<|A1 (Aj _ _) z z ⟨z,z⟩
   refine An z ?_ ?_
   ·intro w6 hB6
    refine At<|⟨_,z,?_⟩
    exact Ai z z<|Al (hC5.grow hB6) 0 z z AU z z<|Aa<|A1 (Aj _ _) z z ⟨z,z⟩
   refine An z ?_ ?_
   ·intro w6 hB6
    refine AG z z z ?_
    rintro _ _ ⟨rfl,rfl⟩ _
    refine At<|⟨_,z,?_⟩
    exact Ai z z<|A9 Bh ty110 g2 hx1 z z z fun b2 o1 h1=>Aa<|A1 (Aj _ _) z z ⟨z,_,_,z,h1⟩
   refine An z ?_ ?_
   ·intro w6 hB6
    refine AG z z z ?_
    rintro _ _ ⟨rfl,b2,o1,rfl,h1⟩ _
    refine At<|⟨_,z,?_⟩
    exact Ai z z<|fd AI Aq z z z z<|Aa<|A1 (Aj _ _) z z ⟨z,_,_,z,h1.snd.fst⟩
   refine An z ?_ ?_
   ·intro w6 hB6
    refine AG z z z ?_
    rintro _ _ ⟨rfl,b3,o2,rfl,h2⟩ _
    refine At<|⟨_,z,?_⟩
    exact Ai z z<|AD ty24 h2 (hC5.keep.then hB6) z z fun v1 h3=>Aa<|A1 (Aj _ _) z z ⟨z,h3⟩
   refine An z ?_ ?_
   ·intro w6 hB6
    refine AG z z z ?_
    rintro v1 _ ⟨rfl,h3⟩ _
    refine At<|⟨_,z,?_⟩
    exact Ai z z<|AH Ag h3 z z<|Aa<|A1 (Aj _ _) z z ⟨z,z⟩
   exact AX
  intro w7 hB7
  refine Ap z z z ?_
  rintro _ _ ⟨rfl,rfl⟩
  refine Ap z z z ?_
  rintro _ _ ⟨rfl,rfl⟩
  refine Ap z z z ?_
  rintro _ _ ⟨rfl,rfl⟩
  refine Ap z z z ?_
  rintro _ _ ⟨rfl,b2,o1,rfl,h1⟩
  refine Ap z z z ?_
  rintro _ _ ⟨rfl,b3,o2,rfl,h2⟩
  refine Ap z z z ?_
  rintro v1 _ ⟨rfl,h3⟩
  refine Ap z z z ?_
  rintro _ _ ⟨rfl,rfl⟩
  exact Bm fun hn1 hb1=>have hC6:=hC5.grow hB7;tg 24 z z z z (CM z z)<|Ai z z<|BQ z z z<|Aa<|tq 25 z z z z<|dn<|nS<|⟨(!decide ((List.length a3.2:Int)=(List.length x4.2.1:Int))),Ab hr1,z,((((Ao hB3).then hB4).then hB5).then hB7).below,hC6⟩
 rintro _ w2 ⟨x1,rfl,rfl,hB2,hC2⟩
 refine wc hF z (fun hF=>?_) fun hF=>?_
 ·exact Ac<|Af z z<|Aa<|AF<|Ax<|rB hF z z hC2
 refine A5<|Am<|A0<|Ac<|Af z z<|Aa<|be hF fun r2 hr4 hF=>wN (fun l w=>.inl ()=r2∧l=[]∧Below w2.heap.size w2 w∧Ctx [] w0 w []) ?_ ?_
 ·refine A4<|wT<|Bj (fun k l w=>∃x5:Int,l=[(5,(ptr b1 0)),(7,(I x5))]∧Below w2.heap.size w2 w∧Ctx [] w0 w [Ah b1 [(I a3.1),u3]]∧S.IsAccess_l1 a3 k x5=some r2) FUEL ⟨0,z,(Aj _ _),hC2,hr4⟩<|?_
  clear hr4
  rintro k1 _ w9 ⟨x5,rfl,hB8,hC7,hL1⟩
  obtain _|k1:=k1<;>rw [S.IsAccess_l1] at hL1
  ·cases hL1
  refine A0<|Ac<|Ae z z<|fd AO Aq z z z z<|Al hC7 0 z z Au z z<|AH Ag g3 z z<|AZ z z z<|Aa<|wc hL1 z (fun hL1=>?_) fun hL1=>?_
  ·refine A5<|Am<|A0<|A4<|Ac<|fd AO Aq z z z z<|Al hC7 0 z z Au z z<|Ae z z<|be hL1 fun x6 hx2 hL1=>A9 Ag ty3 g3 hx2 z z z fun b4 o3 h4=>AD ty3 h4 hC7.keep z z fun v2 h5=>?_
   obtain rfl:=Bo h5
   refine be hL1 fun x7 hr5 hL1=>cb BH z z (c_S_l1In x6 0 9 x7 hr5) fun w10 hB9=>have hC8:=hC7.grow hB9;Bv z z<|Aa<|wc hL1 z (fun hL1=>?_) fun hL1=>?_
   ·refine Ac<|Af z z<|Aa<|AF<|AT<|Ax<|Ax<|AT<|Ax<|Ax<|?_
    obtain rfl:=Ab hL1
    dsimp only at hF
    exact rB hF z z hC8
   exact A5<|AN<|Am<|AL<|Ae z z<|AW z z z<|Af z z<|Aa<|nS<|⟨k1,Aw _,w64 (x5+1),z,((Ao hB8).then hB9).below,hC8,hL1⟩
  refine Bi (A2 (A2 (AM ?_)))
  have hC9:=hC7.h0
  exact nS<|⟨Ab hL1,z,(Ao hB8).below,hC9⟩
 rintro _ w11 ⟨rfl,rfl,hB10,hC10⟩
 try dsimp only at hF
 exact Ac<|Af z z<|Aa<|AF<|rB hF z z hC10
theorem c_S_IsFact {w0:World} (a1:Ta) (u1:Value) (g1:RO [] w0 u1 a1) (a2:Tb) (u2:Value) (g2:RO [] w0 u2 a2.2) (rr:Bool) (hF:S.IsFact a1 a2=some rr) :
 Calls Tryz.prog 221 [u1,(.agg #[(I a2.1),u2])].toArray w0 fun e w'=>∃v,e=.returned v∧Res w0 rr v w':=by
 refine Av Tryz.func221 z z ?_
 have hC0:=A3 w0
 unfold S.IsFact at hF
 refine Ac<|Be (cs:=[(I a2.1),u2]) hC0 z z z fun b1 w1 hC1 hB1 hN1=>Af z z<|Aa<|A0<|be hF fun r1 hr1 hF=>B9 (fun l w=>∃x1:Bool,x1=r1∧l=[(3,(ptr b1 0)),(28,(.bool x1))]∧Below w1.heap.size w1 w∧Ctx [] w0 w [Ah b1 [(I a2.1),u2]]) ?_ ?_
 ·refine W_drawn 23 z hmix fun w3 hB3=>have hC3:=hC1.grow hB3;tm 0 z z z<|be hr1 fun x2 hr2 hr1=>oe 1 z<|cb Cf z z (c_S_IsSchema a1 u1 (g1.now hC3.keep) x2 hr2) fun w4 hB4=>have hC4:=hC3.grow hB4;Aa<|tk 2 z z (Cw z)<|Bv z z<|Aa<|tm 3 z z z<|BJ (fun hc1=>?_) (fun hc1=>?_)
  ·replace hr1:=Cm hr1 hc1
   exact sk 4 z z z z z<|sk 5 z z z z z<|sk 6 z z z z z<|sk 7 z z z z z<|sk 8 z z z z z<|sk 9 z z z z z<|sk 10 z z z z z<|tp 11 z z z z<|tm 12 z z z<|sk 13 z z z z z<|sk 14 z z z z z<|sk 15 z z z z z<|sk 16 z z z z z<|sk 17 z z z z z<|sk 18 z z z z z<|sk 19 z z z z z<|sk 20 z z z z z<|sk 21 z z z z z<|tp 22 z z z z<|dn<|nS<|⟨true,Ab hr1,z,((Ao hB3).then hB4).below,hC4⟩
  replace hr1:=Cn hr1 hc1
  refine tg 4 z z z z (BC AB z z (fun w=>⟨_,A7 w⟩) z)<|Ai z z<|fd AB A7 z z z z<|Aa<|tn 6 z z z z z<|tg 7 z z z z (fl_len Ag g1 z)<|Ai z z<|AH Ag g1 z z<|Aa<|tg 8 z z z z (CO z z)<|Ai z z<|Cb z z z<|Aa<|oe 5 z<|Ai z z<|Al hC4 0 z z AU z z<|Aa<|be hr1 fun x3 hr3 hr1=>oe 9 z<|Ai z z<|cb BH z z (c_S_l1In a2.1 0 (w64 ((List.length a1:Int) - 1)) x3 hr3) fun w5 hB5=>have hC5:=hC4.grow hB5;Aa<|tg 10 z z z z (Cw z)<|Ai z z<|Bv z z<|Aa<|tq 11 z z z z<|tm 12 z z z<|BJ (fun hc2=>?_) (fun hc2=>?_)
  ·replace hr1:=Cm hr1 hc2
   exact sk 13 z z z z z<|sk 14 z z z z z<|sk 15 z z z z z<|sk 16 z z z z z<|sk 17 z z z z z<|sk 18 z z z z z<|sk 19 z z z z z<|sk 20 z z z z z<|sk 21 z z z z z<|tp 22 z z z z<|dn<|nS<|⟨true,Ab hr1,z,(((Ao hB3).then hB4).then hB5).below,hC5⟩
  replace hr1:=Cn hr1 hc2
  refine tg 13 z z z z (BC AB z z (fun w=>⟨_,Aq w⟩) z)<|Ai z z<|fd AB Aq z z z z<|Aa<|tn 16 z z z z z<|tg 17 z z z z (BC AB z z (fun w=>⟨_,A7 w⟩) z)<|Ai z z<|fd AB A7 z z z z<|Aa<|be hr1 fun x4 hx1 hr1=>wAS (l':=[(0,u1),(1,(.agg #[(I a2.1),u2])),(3,(ptr b1 0)),(4,(.bool false)),(6,u1),(7,(.bool x2)),(8,(.bool (!x2))),(9,(.bool false)),(10,(ptr b1 0)),(11,(I a2.1)),(12,u1),(13,(I (List.length a1:Int))),(14,(I (w64 ((List.length a1:Int) - 1)))),(15,(.bool x3)),(16,(.bool (!x3))),(17,(.bool (!x3))),(18,(.bool false)),(19,(ptr b1 1)),(22,u1),(23,(ptr b1 0))]) ⟨z,z,z,z,z,z,z,z,z,z,z,z,z,z,z,z,z,z,z,z,A6⟩<|Bg [⟨14,[],fun vs=>AQ u2,[]⟩,⟨15,[],fun vs=>AQ (I (List.length a2.2:Int)),[]⟩,⟨18,[],fun vs=>AQ (I a2.1),[]⟩,⟨19,[],fun vs=>Cd [] w0 x4,[]⟩,⟨20,[],fun vs=>AQ (I x4),[]⟩] [[],[14],[],[18],[19]] 2 z (by kernel_rfl) (by kernel_rfl) z ?_ ?_
  ·refine An z ?_ ?_
   ·intro w6 hB6
    refine At<|⟨_,z,?_⟩
    exact Ai z z<|Al (hC5.grow hB6) 0 z z Au z z<|Aa<|A1 (Aj _ _) z z ⟨z,z⟩
   refine An z ?_ ?_
   ·intro w6 hB6
    refine AG z z z ?_
    rintro _ _ ⟨rfl,rfl⟩ _
    refine At<|⟨_,z,?_⟩
    exact Ai z z<|AH Ag g2 z z<|Aa<|A1 (Aj _ _) z z ⟨z,z⟩
   refine An z ?_ ?_
   ·intro w6 hB6
    refine At<|⟨_,z,?_⟩
    exact Ai z z<|Al (hC5.grow hB6) 0 z z AU z z<|Aa<|A1 (Aj _ _) z z ⟨z,z⟩
   refine An z ?_ ?_
   ·intro w6 hB6
    refine AG z z z ?_
    rintro _ _ ⟨rfl,rfl⟩ _
    refine At<|⟨_,z,?_⟩
    exact Ai z z<|A9 Ag ty3 g1 hx1 z z z fun b2 o1 h1=>Aa<|A1 (Aj _ _) z z ⟨z,_,_,z,h1⟩
   refine An z ?_ ?_
   ·intro w6 hB6
    refine AG z z z ?_
    rintro _ _ ⟨rfl,b2,o1,rfl,h1⟩ _
    refine At<|⟨_,z,?_⟩
    refine Ai z z<|AD ty3 h1 (hC5.keep.then hB6) z z fun v1 h2=>?_
    obtain rfl:=Bo h2
    exact Aa<|A1 (Aj _ _) z z ⟨z,z⟩
   exact AX
  intro w7 hB7
  refine Ap z z z ?_
  rintro _ _ ⟨rfl,rfl⟩
  refine Ap z z z ?_
  rintro _ _ ⟨rfl,rfl⟩
  refine Ap z z z ?_
  rintro _ _ ⟨rfl,rfl⟩
  refine Ap z z z ?_
  rintro _ _ ⟨rfl,b2,o1,rfl,h1⟩
  refine Ap z z z ?_
  rintro _ _ ⟨rfl,rfl⟩
  exact Bm fun hn1 hb1=>have hC6:=hC5.grow hB7;tg 21 z z z z (CM z z)<|Ai z z<|BQ z z z<|Aa<|tq 22 z z z z<|dn<|nS<|⟨(!decide ((List.length a2.2:Int)=x4)),Ab hr1,z,((((Ao hB3).then hB4).then hB5).then hB7).below,hC6⟩
 rintro _ w2 ⟨x1,rfl,rfl,hB2,hC2⟩
 refine wc hF z (fun hF=>?_) fun hF=>?_
 ·exact Ac<|Af z z<|Aa<|AF<|Ax<|rB hF z z hC2
 refine A5<|Am<|A0<|Ac<|Af z z<|Aa<|be hF fun r2 hr4 hF=>wN (fun l w=>.inl ()=r2∧l=[]∧Below w2.heap.size w2 w∧Ctx [] w0 w []) ?_ ?_
 ·refine A4<|wT<|Bj (fun k l w=>∃x5:Int,l=[(3,(ptr b1 0)),(5,(I x5))]∧Below w2.heap.size w2 w∧Ctx [] w0 w [Ah b1 [(I a2.1),u2]]∧S.IsFact_l1 a2 k x5=some r2) FUEL ⟨0,z,(Aj _ _),hC2,hr4⟩<|?_
  clear hr4
  rintro k1 _ w9 ⟨x5,rfl,hB8,hC7,hL1⟩
  obtain _|k1:=k1<;>rw [S.IsFact_l1] at hL1
  ·cases hL1
  refine A0<|Ac<|Ae z z<|fd AB Aq z z z z<|Al hC7 0 z z Au z z<|AH Ag g2 z z<|AZ z z z<|Aa<|wc hL1 z (fun hL1=>?_) fun hL1=>?_
  ·refine A5<|Am<|A0<|A4<|Ac<|fd AB Aq z z z z<|Al hC7 0 z z Au z z<|Ae z z<|be hL1 fun x6 hx2 hL1=>A9 Ag ty3 g2 hx2 z z z fun b3 o2 h3=>AD ty3 h3 hC7.keep z z fun v2 h4=>?_
   obtain rfl:=Bo h4
   refine be hL1 fun x7 hr5 hL1=>cb BH z z (c_S_l1In x6 0 9 x7 hr5) fun w10 hB9=>have hC8:=hC7.grow hB9;Bv z z<|Aa<|wc hL1 z (fun hL1=>?_) fun hL1=>?_
   ·refine Ac<|Af z z<|Aa<|AF<|AT<|Ax<|Ax<|AT<|Ax<|Ax<|?_
    obtain rfl:=Ab hL1
    dsimp only at hF
    exact rB hF z z hC8
   exact A5<|AN<|Am<|AL<|Ae z z<|AW z z z<|Af z z<|Aa<|nS<|⟨k1,Aw _,w64 (x5+1),z,((Ao hB8).then hB9).below,hC8,hL1⟩
  refine Bi (A2 (A2 (AM ?_)))
  have hC9:=hC7.h0
  exact nS<|⟨Ab hL1,z,(Ao hB8).below,hC9⟩
 rintro _ w11 ⟨rfl,rfl,hB10,hC10⟩
 try dsimp only at hF
 exact Ac<|Af z z<|Aa<|AF<|rB hF z z hC10
theorem c_S_AreFacts {w0:World} (a1:Ta) (u1:Value) (g1:RO [] w0 u1 a1) (a2:Tc) (u2:Value) (g2:RO [] w0 u2 a2) (rr:Bool) (hF:S.AreFacts a1 a2=some rr) :
 Calls Tryz.prog 202 [u1,u2].toArray w0 fun e w'=>∃v,e=.returned v∧Res w0 rr v w':=by
 refine Av Tryz.func202 z z ?_
 have hC0:=A3 w0
 unfold S.AreFacts at hF
 refine Ac<|Af z z<|Aa<|A0<|Ac<|Af z z<|Aa<|be hF fun r1 hr1 hF=>wN (fun l w=>.inl ()=r1∧l=[(0,u1),(1,u2)]∧Below w0.heap.size w0 w∧Ctx [] w0 w []) ?_ ?_
 ·refine A4<|wT<|Bj (fun k l w=>∃x1:Int,l=[(0,u1),(1,u2),(5,(I x1))]∧Below w0.heap.size w0 w∧Ctx [] w0 w []∧S.AreFacts_l1 a2 a1 k x1=some r1) FUEL ⟨0,z,(Aj _ _),hC0,hr1⟩<|?_
  clear hr1
  rintro k1 _ w1 ⟨x1,rfl,hB1,hC1,hL1⟩
  obtain _|k1:=k1<;>rw [S.AreFacts_l1] at hL1
  ·cases hL1
  refine A0<|Ac<|Ae z z<|Ae z z<|AH Ak g2 z z<|AZ z z z<|Aa<|wc hL1 z (fun hL1=>?_) fun hL1=>?_
  ·refine A5<|Am<|A0<|A4<|be hL1 fun r2 hr2 hL1=>B9 (fun l w=>∃x2:Bool,x2=r2∧l=[(0,u1),(1,u2),(5,(I x1)),(35,(.bool x2))]∧Below w1.heap.size w1 w∧Ctx [] w0 w []) ?_ ?_
   ·refine W_drawn 24 z hmix fun w3 hB3=>have hC3:=hC1.grow hB3;tm 0 z z z<|tm 1 z z z<|tm 2 z z z<|be hr2 fun x3 hx1 hr2=>tk 3 z z (B5 Ak ty77 g2 hx1 z z)<|A9 Ak ty77 g2 hx1 z z z fun b1 o1 h1=>Aa<|oe 4 z<|AD ty77 h1 hC3.keep z z fun v1 h2=>?_
    obtain ⟨v2,rfl,h3⟩:=BE h2
    refine Aa<|be hr2 fun x4 hr3 hr2=>oe 5 z<|cb Tryz.call221 z z (c_S_IsFact a1 u1 (g1.now hC3.keep) x3 v2 (h3.now hC3.keep) x4 hr3) fun w4 hB4=>have hC4:=hC3.grow hB4;Aa<|tk 6 z z (Cw z)<|Bv z z<|Aa<|tm 7 z z z<|BJ (fun hc2=>?_) (fun hc2=>?_)
    ·replace hr2:=Cm hr2 hc2
     exact sk 8 z z z z z<|sk 9 z z z z z<|sk 10 z z z z z<|sk 11 z z z z z<|sk 12 z z z z z<|sk 13 z z z z z<|sk 14 z z z z z<|sk 15 z z z z z<|sk 16 z z z z z<|sk 17 z z z z z<|sk 18 z z z z z<|sk 19 z z z z z<|sk 20 z z z z z<|sk 21 z z z z z<|sk 22 z z z z z<|tp 23 z z z z<|dn<|nS<|⟨true,Ab hr2,z,((Ao hB3).then hB4).below,hC4⟩
    replace hr2:=Cn hr2 hc2
    refine tn 8 z z z z z<|tg 9 z z z z (fl_gtr z z)<|Ai z z<|Ck z z z<|Aa<|tn 10 z z z z z<|BJ (fun hc3=>?_) (fun hc3=>?_)
    ·replace hr2:=Cm hr2 hc3
     refine tn 11 z z z z z<|tn 12 z z z z z<|tg 13 z z z z (CO z z)<|Ai z z<|Cb z z z<|Aa<|be hr2 fun x5 hx2 hr2=>tg 14 z z z z (B5 Ak ty77 g2 hx2 z z)<|Ai z z<|A9 Ak ty77 g2 hx2 z z z fun b2 o2 h4=>Aa<|tn 16 z z z z z<|tn 17 z z z z z<|be hr2 fun x6 hx3 hr2=>tg 18 z z z z (B5 Ak ty77 g2 hx3 z z)<|Ai z z<|A9 Ak ty77 g2 hx3 z z z fun b3 o3 h5=>Aa<|wAS (l':=[(0,u1),(1,u2),(5,(I x1)),(6,(I x1)),(7,u2),(8,(I (List.length a2:Int))),(9,(.bool (decide (x1 < (List.length a2:Int))))),(12,u1),(13,u2),(14,(I x1)),(15,(ptr b1 o1)),(16,(.agg #[(I x3.1),v2])),(17,(.bool x4)),(18,(.bool (!x4))),(19,(.bool false)),(20,(I x1)),(21,(.bool (decide (0 < x1)))),(22,(.bool true)),(23,u2),(24,(I x1)),(25,(I (w64 (x1 - 1)))),(26,(ptr b2 o2)),(28,u2),(29,(I x1)),(30,(ptr b3 o3))]) ⟨z,z,z,z,z,z,z,z,z,z,z,z,z,z,z,z,z,z,z,z,z,z,z,z,z,A6⟩<|Bg [⟨15,[],fun vs=>Cj [] w0 x5,[]⟩,⟨19,[],fun vs=>Cj [] w0 x6,[]⟩] [[],[]] 4 z (by kernel_rfl) (by kernel_rfl) z ?_ ?_
     ·refine An z ?_ ?_
      ·intro w5 hB5
       refine At<|⟨_,z,?_⟩
       exact Ai z z<|AD ty77 h4 (hC4.keep.then hB5) z z fun v5 h8=>Aa<|A1 (Aj _ _) z z ⟨z,h8⟩
      refine An z ?_ ?_
      ·intro w5 hB5
       refine At<|⟨_,z,?_⟩
       exact Ai z z<|AD ty77 h5 (hC4.keep.then hB5) z z fun v8 h11=>Aa<|A1 (Aj _ _) z z ⟨z,h11⟩
      exact AX
     intro w6 hB6
     refine Ap z z z ?_
     rintro v5 _ ⟨rfl,h8⟩
     obtain ⟨v4,rfl,h7⟩:=BE h8
     refine Ap z z z ?_
     rintro v8 _ ⟨rfl,h11⟩
     obtain ⟨v7,rfl,h10⟩:=BE h11
     exact Bm fun hn1 hb1=>have hC5:=hC4.grow hB6;be hr2 fun x7 hr4 hr2=>oe 20 z<|Ai z z<|ci CX z z (c_S_CompareFacts x5 v4 (h7.now hC5.keep) x6 v7 (h10.now hC5.keep) x7 hr4) fun w7 hB7=>have hC6:=hC5.grow hB7;Aa<|tg 21 z z z z (fl_geq z z)<|Ai z z<|Cr z z z<|Aa<|tg 22 z z z z (Df z z)<|Ai z z<|AJ z z z<|Aa<|tq 23 z z z z<|dn<|nS<|⟨(decide (0 ≤ x7)),Ab hr2,z,((((Ao hB3).then hB4).then hB6).then hB7).below,hC6⟩
    replace hr2:=Cn hr2 hc3
    exact sk 11 z z z z z<|sk 12 z z z z z<|sk 13 z z z z z<|sk 14 z z z z z<|sk 15 z z z z z<|sk 16 z z z z z<|sk 17 z z z z z<|sk 18 z z z z z<|sk 19 z z z z z<|sk 20 z z z z z<|sk 21 z z z z z<|tg 22 z z z z (Dg z z)<|Ai z z<|AK z z z<|Aa<|tq 23 z z z z<|dn<|nS<|⟨false,Ab hr2,z,((Ao hB3).then hB4).below,hC4⟩
   rintro _ w2 ⟨x2,rfl,rfl,hB2,hC2⟩
   refine wc hL1 z (fun hL1=>?_) fun hL1=>?_
   ·refine Ac<|Af z z<|Aa<|AF<|AT<|Ax<|Ax<|AT<|Ax<|Ax<|?_
    obtain rfl:=Ab hL1
    dsimp only at hF
    exact rB hF z z hC2
   exact A5<|AN<|Am<|AL<|Ae z z<|AW z z z<|Af z z<|Aa<|nS<|⟨k1,Aw _,w64 (x1+1),z,((Ao hB1).then hB2).below,hC2,hL1⟩
  refine Bi (A2 (A2 (AM ?_)))
  exact nS<|⟨Ab hL1,z,(Ao hB1).below,hC1⟩
 rintro _ w9 ⟨rfl,rfl,hB8,hC7⟩
 try dsimp only at hF
 refine be hF fun r3 hr5 hF=>B9 (fun l w=>∃x8:Bool,x8=r3∧l=[(4,(.bool x8))]∧Below w9.heap.size w9 w∧Ctx [] w0 w []) ?_ ?_
 ·refine AL<|Ae z z<|be hr5 fun x9 hr6 hr5=>cb Cf z z (c_S_IsSchema a1 u1 (g1.now hC7.keep) x9 hr6) fun w11 hB10=>have hC9:=hC7.grow hB10;Ae z z<|wk hr5 (fun hr5=>?_) fun hr5=>?_
  ·exact Ai z z<|Ae z z<|Ai z z<|AH Ak g2 z z<|Ai z z<|Cv z z z<|AJ z z z<|Af z z<|Aa<|nS<|⟨(decide ((List.length a2:Int) ≤ 24)),Ab hr5,z,(Ao hB10).below,hC9⟩
  exact gs z z z z<|gs z z z z<|gs z z z z<|AK z z z<|Af z z<|Aa<|nS<|⟨false,Ab hr5,z,(Ao hB10).below,hC9⟩
 rintro _ w10 ⟨x8,rfl,rfl,hB9,hC8⟩
 exact AF<|rB hF z z hC8
theorem c_S_l5Fits {w0:World} (a1:Te) (u1:Value) (g1:RO [] w0 u1 a1.2.1) (a2:Ta) (u2:Value) (g2:RO [] w0 u2 a2) (a3:Tb) (u3:Value) (g3:RO [] w0 u3 a3.2) (rr:Bool) (hF:S.l5Fits a1 a2 a3=some rr) :
 Calls Tryz.prog 160 [(.agg #[(I a1.1),u1,(I a1.2.2.1),(I a1.2.2.2.1),(I a1.2.2.2.2)]),u2,(.agg #[(I a3.1),u3])].toArray w0 fun e w'=>∃v,e=.returned v∧Res w0 rr v w':=by
 refine Av Tryz.func160 z z ?_
 have hC0:=A3 w0
 unfold S.l5Fits at hF
 refine Ac<|Be (cs:=[(I a1.1),u1,(I a1.2.2.1),(I a1.2.2.2.1),(I a1.2.2.2.2)]) hC0 z z z fun b1 w1 hC1 hB1 hN1=>Be (cs:=[(I a3.1),u3]) hC1 z z z fun b2 w2 hC2 hB2 hN2=>Af z z<|Aa<|A0<|Ac<|fd AB A7 z z z z<|Al hC2 0 z z AU z z<|fd AI A7 z z z z<|Al hC2 1 z z AU z z<|BQ z z z<|Aa<|wc hF z (fun hF=>?_) fun hF=>?_
 ·exact Ac<|Af z z<|Aa<|AF<|Ax<|rB hF z z hC2
 refine A5<|Am<|A0<|Ac<|Af z z<|Aa<|be hF fun r1 hr1 hF=>wN (fun l w=>.inl ()=r1∧l=[]∧Below w2.heap.size w2 w∧Ctx [] w0 w []) ?_ ?_
 ·refine A4<|wT<|Bj (fun k l w=>∃x1:Int,l=[(1,u2),(3,(ptr b1 0)),(5,(ptr b2 0)),(7,(I x1))]∧Below w2.heap.size w2 w∧Ctx [] w0 w [Ah b2 [(I a3.1),u3],Ah b1 [(I a1.1),u1,(I a1.2.2.1),(I a1.2.2.2.1),(I a1.2.2.2.2)]]∧S.l5Fits_l1 a1 a2 a3 k x1=some r1) FUEL ⟨0,z,(Aj _ _),hC2,hr1⟩<|?_
  clear hr1
  rintro k1 _ w3 ⟨x1,rfl,hB3,hC3,hL1⟩
  obtain _|k1:=k1<;>rw [S.l5Fits_l1] at hL1
  ·cases hL1
  refine A0<|Ac<|Ae z z<|fd AI Aq z z z z<|Al hC3 1 z z Au z z<|AH Ag g1 z z<|AZ z z z<|Aa<|wc hL1 z (fun hL1=>?_) fun hL1=>?_
  ·refine A5<|Am<|A0<|A4<|A0<|W_drawn 14 z hmix fun w4 hB4=>have hC4:=hC3.grow hB4;tf 0 AB Aq z z z z z<|tf 2 AI Aq z z z z z<|tm 4 z z z<|tm 9 z z z<|tm 10 z z z<|be hL1 fun x2 hx1 hL1=>tk 11 z z (B5 Ag ty3 g2 hx1 z z)<|A9 Ag ty3 g2 hx1 z z z fun b3 o1 h1=>Aa<|be hL1 fun x3 hx2 hL1=>be hL1 fun x4 hx3 hL1=>wAS (l':=[(1,u2),(3,(ptr b1 0)),(5,(ptr b2 0)),(7,(I x1)),(13,(I x1)),(14,(ptr b1 1)),(15,u1),(16,(I (List.length a1.2.1:Int))),(17,(.bool (decide (x1 < (List.length a1.2.1:Int))))),(20,(ptr b2 1)),(22,(ptr b1 1)),(24,(I x1)),(29,u2),(30,(I x1)),(31,(ptr b3 o1))]) ⟨z,z,z,z,z,z,z,z,z,z,z,z,z,z,z,A6⟩<|Bg [⟨1,[],fun vs=>AQ u3,[]⟩,⟨3,[],fun vs=>AQ u1,[]⟩,⟨5,[],fun vs=>Cd [] w0 x3,[]⟩,⟨6,[],fun vs=>AQ (I x3),[]⟩,⟨7,[],fun vs=>Cd [] w0 x4,[]⟩,⟨8,[],fun vs=>AQ (I x4),[]⟩,⟨12,[],fun vs=>AQ (I x2),[]⟩] [[],[],[3],[5],[1,6],[7],[]] 1 z (by kernel_rfl) (by kernel_rfl) z ?_ ?_
   ·refine An z ?_ ?_
    ·intro w5 hB5
     refine At<|⟨_,z,?_⟩
     exact Al (hC4.grow hB5) 0 z z Au z z<|Aa<|A1 (Aj _ _) z z ⟨z,z⟩
    refine An z ?_ ?_
    ·intro w5 hB5
     refine At<|⟨_,z,?_⟩
     exact Al (hC4.grow hB5) 1 z z Au z z<|Aa<|A1 (Aj _ _) z z ⟨z,z⟩
    refine An z ?_ ?_
    ·intro w5 hB5
     refine AG z z z ?_
     rintro _ _ ⟨rfl,rfl⟩ _
     refine At<|⟨_,z,?_⟩
     exact A9 Ag ty3 g1 hx2 z z z fun b4 o2 h2=>Aa<|A1 (Aj _ _) z z ⟨z,_,_,z,h2⟩
    refine An z ?_ ?_
    ·intro w5 hB5
     refine AG z z z ?_
     rintro _ _ ⟨rfl,b4,o2,rfl,h2⟩ _
     refine At<|⟨_,z,?_⟩
     refine AD ty3 h2 (hC4.keep.then hB5) z z (fun v1 h3=>?_)
     obtain rfl:=Bo h3
     exact Aa<|A1 (Aj _ _) z z ⟨z,z⟩
    refine An z ?_ ?_
    ·intro w5 hB5
     refine AG z z z ?_
     rintro _ _ ⟨rfl,rfl⟩ _
     refine AG z z z ?_
     rintro _ _ ⟨rfl,rfl⟩ _
     refine At<|⟨_,z,?_⟩
     exact A9 Ag ty3 g3 hx3 z z z fun b5 o3 h4=>Aa<|A1 (Aj _ _) z z ⟨z,_,_,z,h4⟩
    refine An z ?_ ?_
    ·intro w5 hB5
     refine AG z z z ?_
     rintro _ _ ⟨rfl,b5,o3,rfl,h4⟩ _
     refine At<|⟨_,z,?_⟩
     refine AD ty3 h4 (hC4.keep.then hB5) z z (fun v2 h5=>?_)
     obtain rfl:=Bo h5
     exact Aa<|A1 (Aj _ _) z z ⟨z,z⟩
    refine An z ?_ ?_
    ·intro w5 hB5
     refine At<|⟨_,z,?_⟩
     refine AD ty3 h1 (hC4.keep.then hB5) z z (fun v3 h6=>?_)
     obtain rfl:=Bo h6
     exact Aa<|A1 (Aj _ _) z z ⟨z,z⟩
    exact AX
   intro w6 hB6
   refine Ap z z z ?_
   rintro _ _ ⟨rfl,rfl⟩
   refine Ap z z z ?_
   rintro _ _ ⟨rfl,rfl⟩
   refine Ap z z z ?_
   rintro _ _ ⟨rfl,b4,o2,rfl,h2⟩
   refine Ap z z z ?_
   rintro _ _ ⟨rfl,rfl⟩
   refine Ap z z z ?_
   rintro _ _ ⟨rfl,b5,o3,rfl,h4⟩
   refine Ap z z z ?_
   rintro _ _ ⟨rfl,rfl⟩
   refine Ap z z z ?_
   rintro _ _ ⟨rfl,rfl⟩
   refine Bm fun hn1 hb1=>have hC5:=hC4.grow hB6;tk 13 z z (CM z z)<|BQ z z z<|Aa<|dn<|Am<|wc hL1 z (fun hL1=>?_) fun hL1=>?_
   ·refine Ac<|Af z z<|Aa<|AF<|AT<|Ax<|Ax<|AT<|Ax<|Ax<|?_
    obtain rfl:=Ab hL1
    dsimp only at hF
    exact rB hF z z hC5
   exact A5<|AN<|Am<|AL<|Ae z z<|AW z z z<|Af z z<|Aa<|nS<|⟨k1,Aw _,w64 (x1+1),z,(((Ao hB3).then hB4).then hB6).below,hC5,hL1⟩
  refine Bi (A2 (A2 (AM ?_)))
  have hC6:=hC3.h0
  exact nS<|⟨Ab hL1,z,(Ao hB3).below,hC6⟩
 rintro _ w7 ⟨rfl,rfl,hB7,hC7⟩
 try dsimp only at hF
 exact Ac<|Af z z<|Aa<|AF<|rB hF z z hC7
theorem c_S_l5Matches {w0:World} (a1:Te) (u1:Value) (g1:RO [] w0 u1 a1.2.1) (a2:Ta) (u2:Value) (g2:RO [] w0 u2 a2) (a3:Tc) (u3:Value) (g3:RO [] w0 u3 a3) (rr:Tc) (hF:S.l5Matches a1 a2 a3=some rr) :
 Calls Tryz.prog 205 [(.agg #[(I a1.1),u1,(I a1.2.2.1),(I a1.2.2.2.1),(I a1.2.2.2.2)]),u2,u3].toArray w0 fun e w'=>∃v,e=.returned v∧Res w0 rr v w':=by
 refine Av Tryz.func205 z z ?_
 have hC0:=A3 w0
 unfold S.l5Matches at hF
 refine Ac<|Be (cs:=[(I a1.1),u1,(I a1.2.2.1),(I a1.2.2.2.1),(I a1.2.2.2.2)]) hC0 z z z fun b1 w1 hC1 hB1 hN1=>Af z z<|Aa<|Ac<|Ar (vs:=[]) hC1 Ak ty77 z z z z (by simp) z z fun b2 w2 hC2 hB2=>?_
 have hC5:=hC2.rowE (α:=Tb)
 refine Af z z<|Aa<|A0<|Ac<|Af z z<|Aa<|be hF fun r1 hr1 hF=>wN (fun l w=>∃v2:Value,∃x3:Tc,x3=r1∧l=[(7,v2)]∧Ctx [] w0 w [Ad v2 x3]) ?_ ?_
 ·refine A4<|wT<|Bj (fun k l w=>∃v1:Value,∃x1:Tc,∃x2:Int,l=[(1,u2),(2,u3),(3,(ptr b1 0)),(7,v1),(8,(I x2))]∧Ctx [] w0 w [Ad v1 x1,Ah b1 [(I a1.1),u1,(I a1.2.2.1),(I a1.2.2.2.1),(I a1.2.2.2.2)]]∧S.l5Matches_l1 a3 a1 a2 k x1 x2=some r1) FUEL ⟨(.slice (some ⟨b2,0,none⟩) 0 0),([]:List Tb),0,z,hC5,hr1⟩<|?_
  clear hr1
  rintro k1 _ w3 ⟨v1,x1,x2,rfl,hC6,hL1⟩
  obtain _|k1:=k1<;>rw [S.l5Matches_l1] at hL1
  ·cases hL1
  refine A0<|Ac<|Ae z z<|Ae z z<|AH Ak g3 z z<|AZ z z z<|Aa<|wc hL1 z (fun hL1=>?_) fun hL1=>?_
  ·refine A5<|Am<|A0<|A4<|A0<|W_drawn 7 z hmix fun w4 hB4=>have hC7:=hC6.grow hB4;tm 1 z z z<|tm 2 z z z<|tm 3 z z z<|be hL1 fun x4 hx1 hL1=>tk 4 z z (B5 Ak ty77 g3 hx1 z z)<|A9 Ak ty77 g3 hx1 z z z fun b3 o1 h1=>Aa<|wAS (l':=[(1,u2),(2,u3),(3,(ptr b1 0)),(7,v1),(8,(I x2)),(10,(I x2)),(11,u3),(12,(I (List.length a3:Int))),(13,(.bool (decide (x2 < (List.length a3:Int))))),(17,u2),(18,u3),(19,(I x2)),(20,(ptr b3 o1))]) ⟨z,z,z,z,z,z,z,z,z,z,z,z,z,A6⟩<|Bg [⟨0,[],fun vs=>AQ (.agg #[(I a1.1),u1,(I a1.2.2.1),(I a1.2.2.2.1),(I a1.2.2.2.2)]),[]⟩,⟨5,[],fun vs=>Cj [] w0 x4,[]⟩] [[],[]] 1 z (by kernel_rfl) (by kernel_rfl) z ?_ ?_
   ·refine An z ?_ ?_
    ·intro w5 hB5
     refine At<|⟨_,z,?_⟩
     exact Az [(I a1.1),u1,(I a1.2.2.1),(I a1.2.2.2.1),(I a1.2.2.2.2)] (hC7.grow hB5) 1 z z z BU B6 z z<|Aa<|A1 (Aj _ _) z z ⟨z,z⟩
    refine An z ?_ ?_
    ·intro w5 hB5
     refine At<|⟨_,z,?_⟩
     exact AD ty77 h1 (hC7.keep.then hB5) z z fun v5 h4=>Aa<|A1 (Aj _ _) z z ⟨z,h4⟩
    exact AX
   intro w6 hB6
   refine Ap z z z ?_
   rintro _ _ ⟨rfl,rfl⟩
   refine Ap z z z ?_
   rintro v5 _ ⟨rfl,h4⟩
   obtain ⟨v4,rfl,h3⟩:=BE h4
   refine Bm fun hn1 hb1=>have hC8:=hC7.grow hB6;be hL1 fun x5 hr2 hL1=>oe 6 z<|cb Tryz.call160 z z (c_S_l5Fits (a1.1,a1.2.1,a1.2.2.1,a1.2.2.2.1,a1.2.2.2.2) u1 (g1.now hC8.keep) a2 u2 (g2.now hC8.keep) x4 v4 (h3.now hC8.keep) x5 hr2) fun w7 hB7=>have hC9:=hC8.grow hB7;Aa<|dn<|Am<|be hL1 fun r2 hr3 hL1=>wB (fun l w=>∃v6:Value,∃x6:Tc,x6=r2∧l=[(1,u2),(2,u3),(3,(ptr b1 0)),(7,v6),(8,(I x2))]∧Ctx [] w0 w [Ad v6 x6,Ah b1 [(I a1.1),u1,(I a1.2.2.1),(I a1.2.2.2.1),(I a1.2.2.2.2)]]) ?_ ?_
   ·refine wc hr3 z (fun hr3=>?_) fun hr3=>?_
    ·refine W_drawn 15 z hmix fun w10 hB9=>have hC11:=hC9.grow hB9;tm 0 z z z<|tm 1 z z z<|tm 2 z z z<|be hr3 fun x7 hx2 hr3=>tk 3 z z (B5 Ak ty77 g3 hx2 z z)<|A9 Ak ty77 g3 hx2 z z z fun b4 o2 h5=>Aa<|tf 4 AB A7 z z z z z<|tm 6 z z z<|tm 7 z z z<|be hr3 fun x8 hx3 hr3=>tk 8 z z (B5 Ak ty77 g3 hx3 z z)<|A9 Ak ty77 g3 hx3 z z z fun b5 o3 h6=>Aa<|tf 9 AB Aq z z z z z<|wAS (l':=[(1,u2),(2,u3),(3,(ptr b1 0)),(7,v1),(8,(I x2)),(10,(I x2)),(11,u3),(12,(I (List.length a3:Int))),(13,(.bool (decide (x2 < (List.length a3:Int))))),(16,(.agg #[(I a1.1),u1,(I a1.2.2.1),(I a1.2.2.2.1),(I a1.2.2.2.2)])),(17,u2),(18,u3),(19,(I x2)),(20,(ptr b3 o1)),(21,(.agg #[(I x4.1),v4])),(22,(.bool x5)),(23,v1),(24,u3),(25,(I x2)),(26,(ptr b4 o2)),(27,(ptr b4 (o2+0))),(29,u3),(30,(I x2)),(31,(ptr b5 o3)),(32,(ptr b5 (o3+1)))]) ⟨z,z,z,z,z,z,z,z,z,z,z,z,z,z,z,z,z,z,z,z,z,z,z,z,z,A6⟩<|Bg [⟨5,[],fun vs=>AQ (I x7.1),[]⟩,⟨10,[],fun vs=>Cj [] w0 x8.2,[]⟩] [[],[]] 4 z (by kernel_rfl) (by kernel_rfl) z ?_ ?_
     ·refine An z ?_ ?_
      ·intro w11 hB10
       refine At<|⟨_,z,?_⟩
       refine AD ty3 h5.fst (hC11.keep.then hB10) z z (fun v7 h7=>?_)
       obtain rfl:=Bo h7
       exact Aa<|A1 (Aj _ _) z z ⟨z,z⟩
      refine An z ?_ ?_
      ·intro w11 hB10
       refine At<|⟨_,z,?_⟩
       exact AD ty24 h6.snd (hC11.keep.then hB10) z z fun v8 h8=>Aa<|A1 (Aj _ _) z z ⟨z,h8⟩
      exact AX
     intro w12 hB11
     refine Ap z z z ?_
     rintro _ _ ⟨rfl,rfl⟩
     refine Ap z z z ?_
     rintro v8 _ ⟨rfl,h8⟩
     refine Bm fun hn2 hb2=>have hC12:=hC11.grow hB11;be hr3 fun x9 hr4 hr3=>oe 11 z<|AA C9 z z (c_S_l2One x7.1 x8.2 v8 (h8.now hC12.keep) x9 hr4)<|?_
     rintro v9 w13 ⟨hB12,F1,hv2,hn3,hb3⟩
     have hC13:=hC12.push hB12 (A:=Ad v9 x9) hv2 hn3 hb3
     obtain ⟨v10,rfl,hC14⟩:=st77_own hC13
     refine Aa<|oe 12 z<|Ar (vs:=[(.agg #[(I x9.1),v10])]) hC14 Ak ty77 z z z z (fac z<|fa0) z z fun b6 w14 hC15 hB13=>?_
     have hC16:=hC15.row0 (α:=Tb)
     have hC18:=hC16.f2
     have hC17:=Cc x9.1 v10 x9.2 hC18
     have hC19:=hC17.row1
     have hC20:=hC19.front 1 z
     dsimp only [List.eraseIdx,List.cons_append,List.nil_append,List.append_nil] at hC20
     have hC21:Ctx [] w0 w14 (Ad (.slice (some ⟨b6,0,none⟩) 1 1) ([(x9.1,x9.2)]:List Tb)::[Ad v1 x1,Ah b1 [(I a1.1),u1,(I a1.2.2.1),(I a1.2.2.2.1),(I a1.2.2.2.2)]]):=hC20.rowOwn (by simp [maxLen])
     refine Aa<|be hr3 fun x10 hx4 hr3=>oe 13 z<|Bf hC21 0 z Ak ty77 z hx4 z z z fun v11 w15 hC22=>?_
     try dsimp only [List.set] at hC22
     exact Aa<|ta 14 z z z<|dn<|nS<|⟨v11,x10,Ab hr3,z,hC22⟩
    exact A5<|nS<|⟨v1,x1,Ab hr3,z,hC9⟩
   rintro _ w9 ⟨v6,x6,rfl,rfl,hC10⟩
   exact AL<|Ae z z<|AW z z z<|Af z z<|Aa<|nS<|⟨k1,Aw _,v6,x6,w64 (x2+1),z,hC10,hL1⟩
  refine Bi (A2 (A2 (AM ?_)))
  have hC24:=hC6.h1
  exact nS<|⟨v1,x1,Ab hL1,z,hC24⟩
 rintro _ w16 ⟨v2,x3,rfl,rfl,hC25⟩
 exact Ac<|Ae z z<|Af z z<|Aa<|AF<|rO hF z z hC25 0 z
theorem c_S_MatchesOf {w0:World} (a1:Ta) (u1:Value) (g1:RO [] w0 u1 a1) (a2:Tf) (u2:Value) (g2:RO [] w0 u2 a2) (a3:Tc) (u3:Value) (g3:RO [] w0 u3 a3) (a4:Tb) (u4:Value) (g4:RO [] w0 u4 a4.2) (rr:Tc) (hF:S.MatchesOf a1 a2 a3 a4=some rr) :
 Calls Tryz.prog 168 [u1,u2,u3,(.agg #[(I a4.1),u4])].toArray w0 fun e w'=>∃v,e=.returned v∧Res w0 rr v w':=by
 refine Av Tryz.func168 z z ?_
 have hC0:=A3 w0
 unfold S.MatchesOf at hF
 refine Ac<|Be (cs:=[(I a4.1),u4]) hC0 z z z fun b1 w1 hC1 hB1 hN1=>Af z z<|Aa<|A0<|be hF fun r1 hr1 hF=>B9 (fun l w=>∃x1:Bool,x1=r1∧l=[(1,u2),(2,u3),(7,(ptr b1 0)),(19,(.bool x1))]∧Below w1.heap.size w1 w∧Ctx [] w0 w [Ah b1 [(I a4.1),u4]]) ?_ ?_
 ·refine AL<|Ae z z<|Ae z z<|Az [(I a4.1),u4] hC1 0 z z z Bu AP z z<|be hr1 fun x2 hr2 hr1=>cb Tryz.call201 z z (c_S_IsAccess a1 u1 (g1.now hC1.keep) a2 u2 (g2.now hC1.keep) (a4.1,a4.2) u4 (g4.now hC1.keep) x2 hr2) fun w3 hB3=>have hC3:=hC1.grow hB3;Bv z z<|Ae z z<|wk hr1 (fun hr1=>?_) fun hr1=>?_
  ·exact gs z z z z<|gs z z z z<|gs z z z z<|gs z z z z<|AJ z z z<|Aa<|nS<|⟨true,Ab hr1,z,(Ao hB3).below,hC3⟩
  exact Ai z z<|Ae z z<|Ai z z<|Ae z z<|be hr1 fun x3 hr3 hr1=>Ai z z<|cb Tryz.call202 z z (c_S_AreFacts a1 u1 (g1.now hC3.keep) a3 u3 (g3.now hC3.keep) x3 hr3) fun w4 hB4=>have hC4:=hC3.grow hB4;Ai z z<|Bv z z<|AK z z z<|Aa<|nS<|⟨(!x3),Ab hr1,z,((Ao hB3).then hB4).below,hC4⟩
 rintro _ w2 ⟨x1,rfl,rfl,hB2,hC2⟩
 refine wc hF z (fun hF=>?_) fun hF=>?_
 ·refine Ac<|Ar (vs:=[]) hC2 Ak ty77 z z z z (by simp) z z fun b2 w5 hC5 hB5=>?_
  have hC8:=hC5.rowE (α:=Tb)
  exact Af z z<|Aa<|AF<|Ax<|rO hF z z hC8 0 z
 refine A5<|Am<|A0<|W_drawn 10 z hmix fun w6 hB6=>have hC9:=hC2.grow hB6;tm 0 z z z<|tf 1 AO A7 z z z z z<|tf 5 AO Aq z z z z z<|tm 7 z z z<|be hF fun x4 hx1 hF=>wAS (l':=[(1,u2),(2,u3),(7,(ptr b1 0)),(19,(.bool x1)),(21,u2),(22,(ptr b1 0)),(26,(ptr b1 1)),(28,u3)]) ⟨z,z,z,z,z,z,z,z,A6⟩<|Bg [⟨2,[],fun vs=>AQ (I a4.1),[]⟩,⟨3,[],fun vs=>Cd [] w0 x4,[]⟩,⟨4,[],fun vs=>Cj [] w0 x4,[]⟩,⟨6,[],fun vs=>AQ u4,[]⟩] [[],[2],[3],[]] 2 z (by kernel_rfl) (by kernel_rfl) z ?_ ?_
 ·refine An z ?_ ?_
  ·intro w7 hB7
   refine At<|⟨_,z,?_⟩
   exact Al (hC9.grow hB7) 0 z z AU z z<|Aa<|A1 (Aj _ _) z z ⟨z,z⟩
  refine An z ?_ ?_
  ·intro w7 hB7
   refine AG z z z ?_
   rintro _ _ ⟨rfl,rfl⟩ _
   refine At<|⟨_,z,?_⟩
   exact A9 Bh ty110 g2 hx1 z z z fun b3 o1 h1=>Aa<|A1 (Aj _ _) z z ⟨z,_,_,z,h1⟩
  refine An z ?_ ?_
  ·intro w7 hB7
   refine AG z z z ?_
   rintro _ _ ⟨rfl,b3,o1,rfl,h1⟩ _
   refine At<|⟨_,z,?_⟩
   exact AD ty110 h1 (hC9.keep.then hB7) z z fun v3 h4=>Aa<|A1 (Aj _ _) z z ⟨z,h4⟩
  refine An z ?_ ?_
  ·intro w7 hB7
   refine At<|⟨_,z,?_⟩
   exact Al (hC9.grow hB7) 0 z z Au z z<|Aa<|A1 (Aj _ _) z z ⟨z,z⟩
  exact AX
 intro w9 hB8
 refine Ap z z z ?_
 rintro _ _ ⟨rfl,rfl⟩
 refine Ap z z z ?_
 rintro _ _ ⟨rfl,b3,o1,rfl,h1⟩
 refine Ap z z z ?_
 rintro v3 _ ⟨rfl,h4⟩
 obtain ⟨v2,rfl,h3⟩:=CW h4
 refine Ap z z z ?_
 rintro _ _ ⟨rfl,rfl⟩
 refine Bm fun hn1 hb1=>have hC10:=hC9.grow hB8;be hF fun x5 hr4 hF=>oe 8 z<|AA Tryz.call205 z z (c_S_l5Matches x4 v2 (h3.now hC10.keep) a4.2 u4 (g4.now hC10.keep) a3 u3 (g3.now hC10.keep) x5 hr4)<|?_
 rintro v4 w10 ⟨hB9,F1,hv3,hn2,hb2⟩
 have hC11:=hC10.push hB9 (A:=Ad v4 x5) hv3 hn2 hb2
 exact Aa<|ta 9 z z z<|dn<|Am<|AF<|rO hF z z hC11 0 z
theorem c_S_RespondTo {w0:World} (a1:Ta) (u1:Value) (g1:RO [] w0 u1 a1) (a2:Tf) (u2:Value) (g2:RO [] w0 u2 a2) (a3:Tc) (u3:Value) (g3:RO [] w0 u3 a3) (a4:Tb) (u4:Value) (g4:RO [] w0 u4 a4.2) (a5:Int) (rr:Tc) (hF:S.RespondTo a1 a2 a3 a4 a5=some rr) :
 Calls Tryz.prog 114 [u1,u2,u3,(.agg #[(I a4.1),u4]),(I a5)].toArray w0 fun e w'=>∃v,e=.returned v∧Res w0 rr v w':=by
 refine Av Tryz.func114 z z ?_
 have hC0:=A3 w0
 unfold S.RespondTo at hF
 refine Ac<|Be (cs:=[(I a4.1),u4]) hC0 z z z fun b1 w1 hC1 hB1 hN1=>Af z z<|Aa<|Ac<|Ae z z<|Ae z z<|Ae z z<|Az [(I a4.1),u4] hC1 0 z z z Bu AP z z<|be hF fun x1 hr1 hF=>AA Tryz.call168 z z (c_S_MatchesOf a1 u1 (g1.now hC1.keep) a2 u2 (g2.now hC1.keep) a3 u3 (g3.now hC1.keep) (a4.1,a4.2) u4 (g4.now hC1.keep) x1 hr1)<|?_
 rintro v1 w2 ⟨hB2,F1,hv1,hn1,hb1⟩
 have hC2:=hC1.push hB2 (A:=Ad v1 x1) hv1 hn1 hb1
 refine Af z z<|Aa<|A0<|be hF fun r1 hr2 hF=>B9 (fun l w=>∃x2:Bool,x2=r1∧l=[(1,u2),(4,(I a5)),(8,(ptr b1 0)),(11,v1),(42,(.bool x2))]∧Below w2.heap.size w2 w∧Ctx [] w0 w [Ad v1 x1,Ah b1 [(I a4.1),u4]]) ?_ ?_
 ·refine AL<|Ae z z<|AH Ak (hC2.ro 0 z) z z<|BD z z z<|Ae z z<|wk hr2 (fun hr2=>?_) fun hr2=>?_
  ·exact gs z z z z<|gs z z z z<|gs z z z z<|gs z z z z<|gs z z z z<|gs z z z z<|gs z z z z<|AJ z z z<|Ae z z<|gs z z z z<|gs z z z z<|gs z z z z<|gs z z z z<|gs z z z z<|gs z z z z<|gs z z z z<|gs z z z z<|gs z z z z<|AJ z z z<|Aa<|nS<|⟨true,Ab hr2,z,(Aj _ _),hC2⟩
  refine Ai z z<|Ae z z<|Ai z z<|fd AO A7 z z z z<|Ai z z<|Al hC2 1 z z AU z z<|be hr2 fun x3 hx1 hr2=>Ai z z<|A9 Bh ty110 g2 hx1 z z z fun b2 o1 h1=>Ai z z<|fd AI A7 z z z z<|Ai z z<|AD ty3 h1.snd.snd.fst hC2.keep z z fun v2 h2=>?_
  obtain rfl:=Bo h2
  refine Ai z z<|BD z z z<|AK z z z<|Ae z z<|wk hr2 (fun hr2=>?_) fun hr2=>?_
  ·exact gs z z z z<|gs z z z z<|gs z z z z<|gs z z z z<|gs z z z z<|gs z z z z<|gs z z z z<|gs z z z z<|gs z z z z<|AJ z z z<|Aa<|nS<|⟨true,Ab hr2,z,(Aj _ _),hC2⟩
  refine Ai z z<|Ae z z<|Ai z z<|AH Ak (hC2.ro 0 z) z z<|Ai z z<|Ae z z<|Ai z z<|fd AO A7 z z z z<|Ai z z<|Al hC2 1 z z AU z z<|be hr2 fun x4 hx2 hr2=>Ai z z<|A9 Bh ty110 g2 hx2 z z z fun b3 o2 h3=>Ai z z<|fd AI A7 z z z z<|Ai z z<|AD ty3 h3.snd.snd.fst hC2.keep z z fun v3 h4=>?_
  obtain rfl:=Bo h4
  exact Ai z z<|Cv z z z<|AK z z z<|Aa<|nS<|⟨(decide ((List.length x1:Int) ≤ x4.2.2.1)),Ab hr2,z,(Aj _ _),hC2⟩
 rintro _ w3 ⟨x2,rfl,rfl,hB3,hC3⟩
 refine wc hF z (fun hF=>?_) fun hF=>?_
 ·exact Ac<|Ae z z<|Af z z<|Aa<|AF<|Ax<|rO hF z z hC3 0 z
 refine A5<|Am<|Ac<|Ar (vs:=[]) hC3 Ak ty77 z z z z (by simp) z z fun b4 w4 hC4 hB4=>?_
 have hC7:=hC4.rowE (α:=Tb)
 refine Af z z<|Aa<|Ac<|Ae z z<|WL_max z z z<|Ae z z<|AH Ak (hC7.ro 1 z) z z<|be hF fun _ hx3 hF=>WL_rem (nz_some hx3) z z z<|Af z z<|Aa<|A0<|Ac<|Af z z<|Aa<|be hF fun r2 hr3 hF=>wN (fun l w=>∃v5:Value,∃x7:Tc,x7=r2∧l=[(12,v5)]∧Below w4.heap.size w4 w∧Ctx [] w0 w [Ad v5 x7]) ?_ ?_
 ·refine A4<|wT<|Bj (fun k l w=>∃v4:Value,∃x5:Tc,∃x6:Int,l=[(1,u2),(8,(ptr b1 0)),(11,v1),(12,v4),(13,(I ((if 0 > a5 then 0 else a5).tmod (List.length x1:Int)))),(14,(I x6))]∧Below w4.heap.size w4 w∧Ctx [] w0 w [Ad v4 x5,Ad v1 x1,Ah b1 [(I a4.1),u4]]∧S.RespondTo_l1 a2 a4 x1 a5 k x5 x6=some r2) FUEL ⟨(.slice (some ⟨b4,0,none⟩) 0 0),([]:List Tb),0,z,(Aj _ _),hC7,hr3⟩<|?_
  clear hr3
  rintro k1 _ w5 ⟨v4,x5,x6,rfl,hB5,hC8,hL1⟩
  obtain _|k1:=k1<;>rw [S.RespondTo_l1] at hL1
  ·cases hL1
  refine A0<|Ac<|Ae z z<|Ae z z<|fd AO A7 z z z z<|Al hC8 2 z z AU z z<|be hL1 fun x8 hx4 hL1=>A9 Bh ty110 g2 hx4 z z z fun b5 o3 h5=>fd AI A7 z z z z<|AD ty3 h5.snd.snd.fst hC8.keep z z fun v6 h6=>?_
  obtain rfl:=Bo h6
  refine AZ z z z<|Aa<|wc hL1 z (fun hL1=>?_) fun hL1=>?_
  ·refine A5<|Am<|A0<|A4<|AL<|Ae z z<|Ae z z<|Ae z z<|Ae z z<|AW z z z<|Ae z z<|AH Ak (hC8.ro 1 z) z z<|be hL1 fun _ hx5 hL1=>WL_rem (nz_some hx5) z z z<|be hL1 fun x9 hx6 hL1=>A9 Ak ty77 (hC8.ro 1 z) hx6 z z z fun b6 o4 h7=>AD ty77 h7 (Ay _ _) z z fun v7 h8=>?_
   obtain ⟨v8,rfl,h9⟩:=BE h8
   refine be hL1 fun x10 hr4 hL1=>AA Tryz.call59 z z (c_S_AddFact x5 v4 ((hC8.ro 0 z).now (Ay _ _)) x9 v8 (h9.now (Ay _ _)) x10 hr4)<|?_
   rintro v9 w6 ⟨hB6,F2,hv2,hn2,hb2⟩
   have hC9:=hC8.push hB6 (A:=Ad v9 x10) hv2 hn2 hb2
   exact Af z z<|Aa<|AN<|Am<|AL<|Ae z z<|AW z z z<|Af z z<|Aa<|have hC10:=hC9.f3;have hC11:=hC10.f3;have hC12:=hC11.f2;have hC13:=hC12.h3;nS<|⟨k1,Aw _,v9,x10,w64 (x6+1),z,((Ao hB5).then hB6).below,hC13,hL1⟩
  refine Bi (A2 (A2 (AM ?_)))
  have hC14:=hC8.h1
  exact nS<|⟨v4,x5,Ab hL1,z,(Ao hB5).below,hC14⟩
 rintro _ w7 ⟨v5,x7,rfl,rfl,hB7,hC15⟩
 exact Ac<|Ae z z<|Af z z<|Aa<|AF<|rO hF z z hC15 0 z
theorem c_S_l5AnyAccess {w0:World} {Fs:List Tn} (pb1:Nat) (a1:Ti) (u1:Value) (g1:RO Fs.flatten w0 u1 a1.1) (a2:Tf) (u2:Value) (g2:RO Fs.flatten w0 u2 a2) (hH:Hold [Ah pb1 [u1,(I a1.2.1),(I a1.2.2)]] w0 Fs) (hn:Fs.flatten.Nodup) (rr:Tp) (hF:S.l5AnyAccess a1 a2=some rr) :
 Calls Tryz.prog 115 [(ptr pb1 0),u2].toArray w0 fun e w'=>∃v,e=.returned v∧∃q0:Value,v=q0∧Ctx Fs.flatten w0 w' [Ad q0 (rr.1:Tb),Ah pb1 [u1,(I rr.2.2.1),(I rr.2.2.2)]]:=by
 refine Av Tryz.func115 z z ?_
 have hC0:=B7 hH hn
 unfold S.l5AnyAccess at hF
 refine Ac<|Bq hC0 zero82 z z fun b1 w1 hC1 hB1 hN1=>Aa<|Ac<|Ae z z<|Ae z z<|be hF fun x1 hr1 hF=>have hC2:=hC1.f1;?_
 obtain ⟨Fs1,hH1,hn1,hF1,hO1,hb1⟩:=hC2.lB
 refine AA Tryz.call112 z z (c_S_l5Access pb1 (a1.1,a1.2.1,a1.2.2) u1 (Bd g1 hC2.keep hF1) a2 u2 (Bd g2 hC2.keep hF1) hH1 hn1 x1 hr1) ?_
 rintro v1 w2 ⟨_,rfl,hq1⟩
 have hC3:=hb1 _ _ _ hq1
 obtain ⟨v2,rfl,hC4⟩:=st82_own hC3
 refine Bq hC4 zero82 z z fun b2 w3 hC5 hB2 hN2=>AE (cs':=[(I x1.1.1),v2]) (new:=[(I x1.1.1),v2]) hC5 0 z z (fac z<|fac (Br (hC5.ro 1 z))<|fa0) z AP z z fun w4 hC6 hKp1=>?_
 try dsimp only [List.set] at hC6
 have hk1:=AV (Ao hB2) hN2 hKp1
 refine Aa<|A0<|Ac<|Ae z z<|be hF fun x2 hr2 hF=>have hC7:=hC6.f2;?_
 obtain ⟨Fs2,hH2,hn2,hF2,hO2,hb2⟩:=hC7.lA
 refine AA Bp z z (c_S_l1Below pb1 (a1.1,x1.2.2.1,x1.2.2.2) u1 (Bd g1 hC7.keep hF2) 12 hH2 hn2 x2 hr2) ?_
 rintro _ w5 ⟨rfl,hq2⟩
 have hC8:=hb2 _ _ hq2
 refine Aa<|A4<|Ac<|BD z z z<|Af z z<|Aa<|be hF fun r1 hr3 hF=>wB (fun l w=>∃x3:Int,∃x4:Int,∃x5:Int,∃v3:Value,∃x6:Ta,(x3,x4,x5,x6)=r1∧l=[(4,(ptr b1 0)),(5,(ptr b2 0))]∧Ctx Fs.flatten w0 w [Ah pb1 [u1,(I x3),(I x4)],Ah b2 [(I x5),v3],Ad v3 x6,Ah b1 [(I 0),(.slice none 0 0)]]) ?_ ?_
 ·refine wc hr3 z (fun hr3=>?_) fun hr3=>?_
  ·refine AL<|Ae z z<|be hr3 fun x7 hr4 hr3=>?_
   obtain ⟨Fs3,hH3,hn3,hF3,hO3,hb3⟩:=hC8.lA
   refine AA Bp z z (c_S_l1Below pb1 (a1.1,x2.2.2.1,x2.2.2.2) u1 (Bd g1 hC8.keep hF3) 7 hH3 hn3 x7 hr4) ?_
   rintro _ w7 ⟨rfl,hq3⟩
   have hC10:=hb3 _ _ hq3
   refine Cb z z z<|fd AO A7 z z z z<|B2 (cs':=[(I (w64 (x7.1 - 1))),v2]) hC10 1 z z z z A7 z z fun w9 hC11 hKp2=>?_
   try dsimp only [List.set] at hC11
   exact Aa<|nS<|⟨x7.2.2.1,x7.2.2.2,w64 (x7.1 - 1),v2,x1.1.2,Ab hr3,z,hC11⟩
  refine Ac<|BD z z z<|Af z z<|Aa<|be hr3 fun r2 hr5 hr3=>C7 (fun l w=>∃x8:Int,∃x9:Int,∃x10:Int,∃v4:Value,∃x11:Ta,(x8,x9,x10,x11)=r2∧l=[(4,(ptr b1 0)),(5,(ptr b2 0))]∧Ctx Fs.flatten w0 w [Ah pb1 [u1,(I x8),(I x9)],Ah b2 [(I x10),v4],Ad v4 x11,Ah b1 [(I 0),(.slice none 0 0)]]) ?_ ?_
  ·refine wc hr5 z (fun hr5=>?_) fun hr5=>?_
   ·refine be hr5 fun r3 hr6 hr5=>C7 (fun l w=>∃x12:Int,∃x13:Int,∃x14:Int,∃v5:Value,∃x15:Ta,(x12,x13,x14,x15)=r3∧l=[(4,(ptr b1 0)),(5,(ptr b2 0))]∧Ctx Fs.flatten w0 w [Ah pb1 [u1,(I x12),(I x13)],Ah b2 [(I x14),v5],Ad v5 x15,Ah b1 [(I 0),(.slice none 0 0)]]) ?_ ?_
    ·refine W_drawn 9 z hmix fun w12 hB6=>have hC14:=hC8.grow hB6;tf 0 AO Aq z z z z z<|tm 2 z z z<|Cx (i:=1) (j:=3) (by kernel_rfl) z z ?_ ?_
     ·refine Al hC14 1 z z Au z z<|Aa<|oe 3 z<|Ar (vs:=[(I (-1)),(I 3),(I 10)]) hC14 Ag ty3 z z z z (fac z<|fac z<|fac z<|fa0) z z fun b3 w13 hC15 hB7=>?_
      have hC16:=hC15.row0 (α:=Int)
      have hC17:=hC16.triv (Bt (10))
      have hC18:=hC17.row1
      have hC19:=hC18.triv (Bt (3))
      have hC20:=hC19.row1
      have hC21:=hC20.triv (Bt ((-1)))
      have hC22:=hC21.row1
      have hC23:=hC22.front 1 z
      dsimp only [List.eraseIdx,List.cons_append,List.nil_append,List.append_nil] at hC23
      have hC24:Ctx Fs.flatten w0 w13 (Ad (.slice (some ⟨b3,0,none⟩) 3 3) ([(-1),3,10]:List Int)::[Ah pb1 [u1,(I x2.2.2.1),(I x2.2.2.2)],Ah b2 [(I x1.1.1),v2],Ad v2 x1.1.2,Ah b1 [(I 0),(.slice none 0 0)]]):=hC23.rowOwn (by simp [maxLen])
      refine Aa<|be hr6 fun x16 hr7 hr6=>oe 4 z<|have hC25:=hC24.f1;?_
      obtain ⟨Fs4,hH4,hn4,hF4,hO4,hb4⟩:=hC25.lA
      refine AA BT z z (c_S_l1PickInt pb1 (a1.1,x2.2.2.1,x2.2.2.2) u1 (Bd g1 hC25.keep hF4) ([(-1),3,10]) (.slice (some ⟨b3,0,none⟩) 3 3) (hO4 0 _ _ _ z) hH4 hn4 x16 hr7) ?_
      rintro _ w14 ⟨rfl,hq5⟩
      have hC26:=hb4 _ _ hq5
      refine Aa<|oe 5 z<|Ar (vs:=[(I x16.1)]) hC26 Ag ty3 z z z z (fac z<|fa0) z z fun b4 w15 hC27 hB8=>?_
      have hC28:=hC27.row0 (α:=Int)
      have hC29:=hC28.triv (Bt (x16.1))
      have hC30:=hC29.row1
      have hC31:=hC30.front 1 z
      dsimp only [List.eraseIdx,List.cons_append,List.nil_append,List.append_nil] at hC31
      have hC32:Ctx Fs.flatten w0 w15 (Ad (.slice (some ⟨b4,0,none⟩) 1 1) ([x16.1]:List Int)::[Ah pb1 [u1,(I x16.2.2.1),(I x16.2.2.2)],Ad (.slice (some ⟨b3,0,none⟩) 3 3) ([(-1),3,10]:Ta),Ah b2 [(I x1.1.1),v2],Ad v2 x1.1.2,Ah b1 [(I 0),(.slice none 0 0)]]):=hC31.rowOwn (by simp [maxLen])
      refine Aa<|be hr6 fun x17 hx1 hr6=>oe 6 z<|AS (α:=Int) hC32 4 z (hC32.ro 0 z) (Ay _ _) Ag ty3 z hx1 z z z fun v6 w16 hC33=>?_
      try dsimp only [List.set] at hC33
      refine Aa<|tf 7 AO Aq z z z z z<|oe 8 z<|B2 (cs':=[(I x1.1.1),v6]) hC33 3 z z (Br (hC33.ro 4 z)) z Aq z z fun w17 hC34 hKp3=>?_
      try dsimp only [List.set] at hC34
      refine Aa<|dn<|?_
      have hC35:=hC34.f5
      have hC36:=hC35.f5
      have hC37:=hC36.f5
      have hC38:=hC37.f4
      have hC39:=hC38.h4
      exact nS<|⟨x16.2.2.1,x16.2.2.2,x1.1.1,v6,x17,Ab hr6,z,hC39⟩
     refine Ar (vs:=[(I (-1)),(I 3),(I 10)]) hC14 Ag ty3 z z z z (fac z<|fac z<|fac z<|fa0) z z (fun b3 w13 hC15 hB7=>?_)
     have hC16:=hC15.row0 (α:=Int)
     have hC17:=hC16.triv (Bt (10))
     have hC18:=hC17.row1
     have hC19:=hC18.triv (Bt (3))
     have hC20:=hC19.row1
     have hC21:=hC20.triv (Bt ((-1)))
     have hC22:=hC21.row1
     have hC23:=hC22.front 1 z
     dsimp only [List.eraseIdx,List.cons_append,List.nil_append,List.append_nil] at hC23
     have hC24:Ctx Fs.flatten w0 w13 (Ad (.slice (some ⟨b3,0,none⟩) 3 3) ([(-1),3,10]:List Int)::[Ah pb1 [u1,(I x2.2.2.1),(I x2.2.2.2)],Ah b2 [(I x1.1.1),v2],Ad v2 x1.1.2,Ah b1 [(I 0),(.slice none 0 0)]]):=hC23.rowOwn (by simp [maxLen])
     refine Aa<|Cx (i:=1) (j:=4) (by kernel_rfl) z z ?_ ?_
     ·refine Al hC24 2 z z Au z z<|Aa<|be hr6 fun x16 hr7 hr6=>oe 4 z<|have hC25:=hC24.f1;?_
      obtain ⟨Fs4,hH4,hn4,hF4,hO4,hb4⟩:=hC25.lA
      refine AA BT z z (c_S_l1PickInt pb1 (a1.1,x2.2.2.1,x2.2.2.2) u1 (Bd g1 hC25.keep hF4) ([(-1),3,10]) (.slice (some ⟨b3,0,none⟩) 3 3) (hO4 0 _ _ _ z) hH4 hn4 x16 hr7) ?_
      rintro _ w14 ⟨rfl,hq5⟩
      have hC26:=hb4 _ _ hq5
      refine Aa<|oe 5 z<|Ar (vs:=[(I x16.1)]) hC26 Ag ty3 z z z z (fac z<|fa0) z z fun b4 w15 hC27 hB8=>?_
      have hC28:=hC27.row0 (α:=Int)
      have hC29:=hC28.triv (Bt (x16.1))
      have hC30:=hC29.row1
      have hC31:=hC30.front 1 z
      dsimp only [List.eraseIdx,List.cons_append,List.nil_append,List.append_nil] at hC31
      have hC32:Ctx Fs.flatten w0 w15 (Ad (.slice (some ⟨b4,0,none⟩) 1 1) ([x16.1]:List Int)::[Ah pb1 [u1,(I x16.2.2.1),(I x16.2.2.2)],Ad (.slice (some ⟨b3,0,none⟩) 3 3) ([(-1),3,10]:Ta),Ah b2 [(I x1.1.1),v2],Ad v2 x1.1.2,Ah b1 [(I 0),(.slice none 0 0)]]):=hC31.rowOwn (by simp [maxLen])
      refine Aa<|be hr6 fun x17 hx1 hr6=>oe 6 z<|AS (α:=Int) hC32 4 z (hC32.ro 0 z) (Ay _ _) Ag ty3 z hx1 z z z fun v6 w16 hC33=>?_
      try dsimp only [List.set] at hC33
      refine Aa<|tf 7 AO Aq z z z z z<|oe 8 z<|B2 (cs':=[(I x1.1.1),v6]) hC33 3 z z (Br (hC33.ro 4 z)) z Aq z z fun w17 hC34 hKp3=>?_
      try dsimp only [List.set] at hC34
      refine Aa<|dn<|?_
      have hC35:=hC34.f5
      have hC36:=hC35.f5
      have hC37:=hC36.f5
      have hC38:=hC37.f4
      have hC39:=hC38.h4
      exact nS<|⟨x16.2.2.1,x16.2.2.2,x1.1.1,v6,x17,Ab hr6,z,hC39⟩
     refine be hr6 fun x16 hr7 hr6=>have hC25:=hC24.f1;?_
     obtain ⟨Fs4,hH4,hn4,hF4,hO4,hb4⟩:=hC25.lA
     refine AA BT z z (c_S_l1PickInt pb1 (a1.1,x2.2.2.1,x2.2.2.2) u1 (Bd g1 hC25.keep hF4) ([(-1),3,10]) (.slice (some ⟨b3,0,none⟩) 3 3) (hO4 0 _ _ _ z) hH4 hn4 x16 hr7) ?_
     rintro _ w14 ⟨rfl,hq5⟩
     have hC26:=hb4 _ _ hq5
     refine Aa<|wAS (l':=[(0,(ptr pb1 0)),(1,u2),(4,(ptr b1 0)),(5,(ptr b2 0)),(6,(ptr pb1 0)),(7,u2),(8,(.agg #[(I x1.1.1),v2])),(9,(ptr pb1 0)),(10,(I x2.1)),(11,(.bool (decide (x2.1=0)))),(12,(.bool (decide (x2.1=0)))),(17,(.bool (decide (x2.1=1)))),(18,(.bool (decide (x2.1=1)))),(19,(ptr b2 1)),(21,(ptr pb1 0)),(22,(.slice (some ⟨b3,0,none⟩) 3 3)),(23,(I x16.1))]) ⟨z,z,z,z,z,z,z,z,z,z,z,z,z,z,z,z,z,A6⟩<|Bg [⟨1,[],fun vs=>AQ v2,[]⟩,⟨5,[],fun vs=>BS ([x16.1]:Ta),[]⟩] [[],[]] 3 z (by kernel_rfl) (by kernel_rfl) z ?_ ?_
     ·refine An z ?_ ?_
      ·intro w16 hB9
       refine At<|⟨_,z,?_⟩
       exact Al (hC26.grow hB9) 2 z z Au z z<|Aa<|A1 (Aj _ _) z z ⟨z,z⟩
      refine An z ?_ ?_
      ·intro w16 hB9
       refine At<|⟨_,z,?_⟩
       refine Ar (vs:=[(I x16.1)]) (A3 w16) Ag ty3 z z z z (fac z<|fa0) z z (fun b4 w15 hC27 hB8=>?_)
       have hC28:=hC27.row0 (α:=Int)
       have hC29:=hC28.triv (Bt (x16.1))
       have hC30:=hC29.row1
       have hC31:=hC30.front 1 z
       dsimp only [List.eraseIdx,List.cons_append,List.nil_append,List.append_nil] at hC31
       have hC32:Ctx [] w16 w15 (Ad (.slice (some ⟨b4,0,none⟩) 1 1) ([x16.1]:List Int)::[]):=hC31.rowOwn (by simp [maxLen])
       exact Aa<|Co hC32 z z (fun F h=>h)
      exact AX
     intro w17 hB10
     refine Ap z z z ?_
     rintro _ _ ⟨rfl,rfl⟩
     refine Ap z z z fun v6 F1 hv1=>Bm fun hn5 hb5=>?_
     have hC33:=hC26.pushL hB10 (Bs:=[Ad v6 ([x16.1]:Ta)]) (Fs:=[F1]) ⟨F1,_,z,hv1,z⟩ (by simpa using hn5) (fun b h=>(hb5 b (by simpa using h)).1)
     refine be hr6 fun x17 hx1 hr6=>oe 6 z<|AS (α:=Int) hC33 4 z (hC33.ro 0 z) (Ay _ _) Ag ty3 z hx1 z z z fun v7 w18 hC34=>?_
     try dsimp only [List.set] at hC34
     refine Aa<|tf 7 AO Aq z z z z z<|oe 8 z<|B2 (cs':=[(I x1.1.1),v7]) hC34 3 z z (Br (hC34.ro 4 z)) z Aq z z fun w19 hC35 hKp3=>?_
     try dsimp only [List.set] at hC35
     refine Aa<|dn<|?_
     have hC36:=hC35.f5
     have hC37:=hC36.f5
     have hC38:=hC37.f5
     have hC39:=hC38.f4
     have hC40:=hC39.h4
     exact nS<|⟨x16.2.2.1,x16.2.2.2,x1.1.1,v7,x17,Ab hr6,z,hC40⟩
    rintro l3 _ w11 hs3 ⟨x12,x13,x14,v5,x15,rfl,rfl,hC13⟩
    try dsimp only at hr5
    obtain rfl:=Ab hr5
    exact Cq (l2:=[(4,(ptr b1 0)),(5,(ptr b2 0))]) hs3 ⟨z,z,A6⟩<|⟨x12,x13,x14,v5,x15,z,z,hC13⟩
   exact A5<|nS<|⟨x2.2.2.1,x2.2.2.2,x1.1.1,v2,x1.1.2,Ab hr5,z,hC8⟩
  rintro l2 _ w10 hs2 ⟨x8,x9,x10,v4,x11,rfl,rfl,hC12⟩
  try dsimp only at hr3
  obtain rfl:=Ab hr3
  exact Cq (l2:=[(4,(ptr b1 0)),(5,(ptr b2 0))]) hs2 ⟨z,z,A6⟩<|⟨x8,x9,x10,v4,x11,z,z,hC12⟩
 rintro _ w6 ⟨x3,x4,x5,v3,x6,rfl,rfl,hC9⟩
 try dsimp only at hF
 refine Ac<|Az [(I x5),v3] hC9 1 z z z Bu AP z z<|AE (cs':=[(I x5),v3]) (new:=[(I x5),v3]) hC9 3 z z (fac z<|fac (Br (hC9.ro 2 z))<|fa0) z AP z z fun w20 hC41 hKp4=>?_
 try dsimp only [List.set] at hC41
 refine Aa (AF ?_)
 obtain rfl:=Ab hF
 refine BY z (rv_cell_agg (cs':=[(I x5),v3]) hC41 (i:=3) z z z Bu AP z)<|have hC43:=hC41.f2;?_
 have hC42:=Dk x5 v3 x6 hC43
 have hC44:=hC42.h2
 exact ⟨_,z,_,z,hC44⟩
end Go.Gx.Px
