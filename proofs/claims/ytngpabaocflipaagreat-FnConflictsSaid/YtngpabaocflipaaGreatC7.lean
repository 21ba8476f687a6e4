/- The contracts of the Go functions against the pure functions, printed by program. Conditions: each says them. -/
import Derived.Test.YtngpabaocflipaaGreatC6
import Derived.Test.YtngpabaocflipaaGreatGxZm
set_option linter.unusedVariables false
set_option linter.unusedSimpArgs false
set_option maxRecDepth 100000
set_option maxHeartbeats 4000000
namespace Go.Gx.Px
open Go.Proofs Go.RowKit
open K9
theorem c_Q_FnConflicts {w0:World} (a1:(List UInt8)) (u1:Value) (g1:RO [] w0 u1 a1) (rr:Bool) (hF:Q.FnConflicts a1=some rr) :
 Calls Tryz.prog 3 [u1].toArray w0 fun e w'=>∃v,e=.returned v∧Res w0 rr v w':=by
 refine Ax Tryz.func3 z z ?_
 have hC0:=A5 w0
 unfold Q.FnConflicts at hF
 refine Ac<|Ad z z<|Ab<|A6<|Ac<|Ae z z<|be hF fun x1 hr1 hF=>cb Tryz.call9 z z (c_Q_big a1 u1 (g1.now hC0.keep) x1 hr1) fun w1 hB1=>have hC1:=hC0.grow hB1;Ab<|AE z (fun hc1=>?_) (fun hc1=>?_)
 ·replace hF:=A7 hF hc1
  refine Ac<|Ad z z<|Ab<|AL<|Av<|?_
  obtain rfl:=Aa hF
  exact A2 z z<|⟨_,z,AN hC1 _⟩
 replace hF:=A8 hF hc1
 refine AF<|Ap<|Ac<|Ae z z<|be hF fun x2 hr2 hF=>AG Tryz.call10 z z (c_S_DrawFirstConflict a1 u1 (g1.now hC1.keep) x2 hr2)<|?_
 rintro _ w2 ⟨hB2,v1,v2,v3,F1,F2,F3,rfl,hv2,hv3,hv4,hn1,hb1⟩
 have hC2:=hC1.pushL hB2 (Bs:=[Af v1 x2.1,Af v2 x2.2.1,Af v3 x2.2.2]) (Fs:=[F1,F2,F3]) ⟨F1,_,z,hv2,F2,_,z,hv3,F3,_,z,hv4,z⟩ (by simpa using hn1) (fun b h=>hb1 b (by simpa using h))
 refine Ae z z<|Bh z z z<|Bh z z z<|Bh z z z<|Ad z z<|Ad z z<|Ad z z<|Ab<|Ac<|Ae z z<|Ae z z<|Ae z z<|be hF fun x3 hr3 hF=>AG Tryz.call11 z z (c_M_FirstConflict x2.1 v1 ((hC2.ro 0 z).now (A1 _ _)) x2.2.1 v2 ((hC2.ro 1 z).now (A1 _ _)) x2.2.2 v3 ((hC2.ro 2 z).now (A1 _ _)) x3 hr3)<|?_
 rintro _ w3 ⟨hB3,v4,v5,v6,F4,F5,F6,rfl,hv5,hv6,hv7,hn2,hb2⟩
 obtain ⟨rfl,rfl⟩:=val_int hv5
 obtain ⟨rfl,rfl⟩:=val_int hv6
 obtain ⟨rfl,rfl⟩:=val_bool hv7
 have hC3:=hC2.grow hB3
 refine Ae z z<|Bh z z z<|Bh z z z<|Bh z z z<|Ad z z<|Ad z z<|Ad z z<|Ab<|Ac<|Ae z z<|Ae z z<|Ae z z<|be hF fun x4 hr4 hF=>AG Tryz.call12 z z (c_S_FirstConflict x2.1 v1 ((hC3.ro 0 z).now (A1 _ _)) x2.2.1 v2 ((hC3.ro 1 z).now (A1 _ _)) x2.2.2 v3 ((hC3.ro 2 z).now (A1 _ _)) x4 hr4)<|?_
 rintro _ w4 ⟨hB4,v7,v8,v9,F7,F8,F9,rfl,hv8,hv9,hv10,hn3,hb3⟩
 obtain ⟨rfl,rfl⟩:=val_int hv8
 obtain ⟨rfl,rfl⟩:=val_int hv9
 obtain ⟨rfl,rfl⟩:=val_bool hv10
 have hC4:=hC3.grow hB4
 refine Ae z z<|Bh z z z<|Bh z z z<|Bh z z z<|Ad z z<|Ad z z<|Ad z z<|Ab<|Ac<|Ae z z<|be hF fun x5 hr5 hF=>AG Tryz.call13 z z (c_M_UnionOf x2.2.2 v3 ((hC4.ro 2 z).now (A1 _ _)) x5 hr5)<|?_
 rintro v10 w5 ⟨hB5,F10,hv11,hn4,hb4⟩
 have hC5:=hC4.push hB5 (A:=Af v10 x5) hv11 hn4 hb4
 refine Ad z z<|Ab<|A6<|be hF fun r1 hr6 hF=>BI (fun l w=>∃x6:Bool,x6=r1∧l=[(0,u1),(3,v1),(4,v2),(5,v3),(8,(.bool x3.2.2)),(85,(.bool x6))]∧Below w5.heap.size w5 w∧Ctx [] w0 w [Af v1 (x2.1:(List Int)),Af v2 (x2.2.1:(List (Int × (List Int) × Int × Int × Int))),Af v3 (x2.2.2:(List ((Int × (List Int)) × (List (Int × (List Int))))))]) ?_ ?_
 ·refine Bg<|Ae z z<|Ae z z<|WL_bool_neq BJ z z z<|Ae z z<|Bz (fun hc2=>?_) (fun hc2=>?_)
  ·replace hr6:=A7 hr6 hc2
   refine gs z z z z<|gs z z z z<|gs z z z z<|AW z z z<|Ae z z<|gs z z z z<|gs z z z z<|gs z z z z<|AW z z z<|Ae z z<|gs z z z z<|gs z z z z<|gs z z z z<|gs z z z z<|gs z z z z<|AW z z z<|Ae z z<|gs z z z z<|gs z z z z<|gs z z z z<|gs z z z z<|gs z z z z<|gs z z z z<|gs z z z z<|gs z z z z<|gs z z z z<|AW z z z<|Ab<|?_
   obtain rfl:=Aa hr6
   have hC7:=hC5.f3
   have hC8:=hC7.f3
   have hC9:=hC8.f3
   have hC10:=hC9.h3
   exact Am (l':=[(0,u1),(3,v1),(4,v2),(5,v3),(8,(.bool x3.2.2)),(85,(.bool true))]) ⟨z,z,z,z,z,z,Aj⟩<|⟨true,z,z,(Al _ _),hC10⟩
  replace hr6:=A8 hr6 hc2
  refine Ah z z<|Ae z z<|Ah z z<|Ae z z<|Ah z z<|Ch z z z<|AZ z z z<|Ae z z<|Bz (fun hc3=>?_) (fun hc3=>?_)
  ·replace hr6:=A7 hr6 hc3
   refine gs z z z z<|gs z z z z<|gs z z z z<|AW z z z<|Ae z z<|gs z z z z<|gs z z z z<|gs z z z z<|gs z z z z<|gs z z z z<|AW z z z<|Ae z z<|gs z z z z<|gs z z z z<|gs z z z z<|gs z z z z<|gs z z z z<|gs z z z z<|gs z z z z<|gs z z z z<|gs z z z z<|AW z z z<|Ab<|?_
   obtain rfl:=Aa hr6
   have hC11:=hC5.f3
   have hC12:=hC11.f3
   have hC13:=hC12.f3
   have hC14:=hC13.h3
   exact Am (l':=[(0,u1),(3,v1),(4,v2),(5,v3),(8,(.bool x3.2.2)),(85,(.bool true))]) ⟨z,z,z,z,z,z,Aj⟩<|⟨true,z,z,(Al _ _),hC14⟩
  replace hr6:=A8 hr6 hc3
  refine Ah z z<|Ae z z<|Ah z z<|Ae z z<|Ah z z<|Ch z z z<|AZ z z z<|Ae z z<|Bz (fun hc4=>?_) (fun hc4=>?_)
  ·replace hr6:=A7 hr6 hc4
   refine gs z z z z<|gs z z z z<|gs z z z z<|gs z z z z<|gs z z z z<|AW z z z<|Ae z z<|gs z z z z<|gs z z z z<|gs z z z z<|gs z z z z<|gs z z z z<|gs z z z z<|gs z z z z<|gs z z z z<|gs z z z z<|AW z z z<|Ab<|?_
   obtain rfl:=Aa hr6
   have hC15:=hC5.f3
   have hC16:=hC15.f3
   have hC17:=hC16.f3
   have hC18:=hC17.h3
   exact Am (l':=[(0,u1),(3,v1),(4,v2),(5,v3),(8,(.bool x3.2.2)),(85,(.bool true))]) ⟨z,z,z,z,z,z,Aj⟩<|⟨true,z,z,(Al _ _),hC18⟩
  replace hr6:=A8 hr6 hc4
  refine Ah z z<|Ae z z<|Ah z z<|Ae z z<|be hr6 fun x7 hr7 hr6=>Ah z z<|AG C9 z z (c_S_UnionOf x2.2.2 v3 ((hC5.ro 3 z).now (A1 _ _)) x7 hr7)<|?_
  rintro v11 w7 ⟨hB7,F11,hv12,hn5,hb5⟩
  have hC19:=hC5.push hB7 (A:=Af v11 x7) hv12 hn5 hb5
  refine be hr6 fun x8 hr8 hr6=>Ah z z<|cb Tryz.call14 z z (c_S_SameFacts x5 v10 ((hC19.ro 1 z).now (A1 _ _)) x7 v11 ((hC19.ro 0 z).now (A1 _ _)) x8 hr8) fun w9 hB8=>have hC20:=hC19.grow hB8;Ah z z<|B3 z z<|AZ z z z<|Ae z z<|Bz (fun hc5=>?_) (fun hc5=>?_)
  ·replace hr6:=A7 hr6 hc5
   refine gs z z z z<|gs z z z z<|gs z z z z<|gs z z z z<|gs z z z z<|gs z z z z<|gs z z z z<|gs z z z z<|gs z z z z<|AW z z z<|Ab<|?_
   obtain rfl:=Aa hr6
   have hC21:=hC20.f4
   have hC22:=hC21.f4
   have hC23:=hC22.f4
   have hC24:=hC23.h3
   exact Am (l':=[(0,u1),(3,v1),(4,v2),(5,v3),(8,(.bool x3.2.2)),(85,(.bool true))]) ⟨z,z,z,z,z,z,Aj⟩<|⟨true,z,z,((Ao hB7).then hB8).below,hC24⟩
  replace hr6:=A8 hr6 hc5
  refine Ah z z<|Ae z z<|Ah z z<|Ae z z<|Ah z z<|Ae z z<|be hr6 fun x9 hr9 hr6=>Ah z z<|cb Tryz.call16 z z (c_M_IsConsistent x2.1 v1 ((hC20.ro 2 z).now (A1 _ _)) x2.2.1 v2 ((hC20.ro 3 z).now (A1 _ _)) x2.2.2 v3 ((hC20.ro 4 z).now (A1 _ _)) x9 hr9) fun w10 hB9=>have hC25:=hC20.grow hB9;Ah z z<|Ae z z<|Ah z z<|Ae z z<|Ah z z<|Ae z z<|be hr6 fun x10 hr10 hr6=>Ah z z<|cb Tryz.call17 z z (c_S_IsConsistent x2.1 v1 ((hC25.ro 2 z).now (A1 _ _)) x2.2.1 v2 ((hC25.ro 3 z).now (A1 _ _)) x2.2.2 v3 ((hC25.ro 4 z).now (A1 _ _)) x10 hr10) fun w11 hB10=>have hC26:=hC25.grow hB10;Ah z z<|WL_bool_neq BJ z z z<|AZ z z z<|Ab<|?_
  obtain rfl:=Aa hr6
  have hC27:=hC26.f4
  have hC28:=hC27.f4
  have hC29:=hC28.f4
  have hC30:=hC29.h3
  exact Am (l':=[(0,u1),(3,v1),(4,v2),(5,v3),(8,(.bool x3.2.2)),(85,(.bool (!decide (x9=x10))))]) ⟨z,z,z,z,z,z,Aj⟩<|⟨(!decide (x9=x10)),z,z,((((Ao hB7).then hB8).then hB9).then hB10).below,hC30⟩
 rintro _ w6 ⟨x6,rfl,rfl,hB6,hC6⟩
 try dsimp only at hF
 refine AE z (fun hc6=>?_) (fun hc6=>?_)
 ·replace hF:=A7 hF hc6
  refine Ac<|Ad z z<|Ab<|AL<|Av<|?_
  obtain rfl:=Aa hF
  exact A2 z z<|⟨_,z,AN hC6 _⟩
 replace hF:=A8 hF hc6
 refine AF<|Ap<|A6<|be hF fun r2 hr11 hF=>BI (fun l w=>∃x11:Bool,x11=r2∧l=[(0,u1),(98,(.bool x11))]∧Below w6.heap.size w6 w∧Ctx [] w0 w []) ?_ ?_
 ·refine Bg<|Ae z z<|Ae z z<|be hr11 fun x12 hr12 hr11=>cb Cw z z (c_S_AreMethods x2.1 v1 ((hC6.ro 0 z).now (A1 _ _)) x2.2.1 v2 ((hC6.ro 1 z).now (A1 _ _)) x12 hr12) fun w13 hB12=>have hC32:=hC6.grow hB12;Ae z z<|Bz (fun hc7=>?_) (fun hc7=>?_)
  ·replace hr11:=A7 hr11 hc7
   refine Ah z z<|Ae z z<|Ah z z<|Ae z z<|Ah z z<|Ae z z<|Ah z z<|Ae z z<|be hr11 fun x13 hr13 hr11=>Ah z z<|AG C9 z z (c_S_UnionOf x2.2.2 v3 ((hC32.ro 2 z).now (A1 _ _)) x13 hr13)<|?_
   rintro v12 w14 ⟨hB13,F12,hv17,hn6,hb6⟩
   have hC33:=hC32.push hB13 (A:=Af v12 x13) hv17 hn6 hb6
   refine Ah z z<|Ae z z<|be hr11 fun x14 hr14 hr11=>Ah z z<|cb Tryz.call19 z z (c_M_Explains x2.1 v1 ((hC33.ro 1 z).now (A1 _ _)) x2.2.1 v2 ((hC33.ro 2 z).now (A1 _ _)) x13 v12 ((hC33.ro 0 z).now (A1 _ _)) x2.2.2 v3 ((hC33.ro 3 z).now (A1 _ _)) x14 hr14) fun w15 hB14=>have hC34:=hC33.grow hB14;Ah z z<|CB BJ z z z<|AW z z z<|Ab<|?_
   obtain rfl:=Aa hr11
   have hC35:=hC34.h0
   exact Am (l':=[(0,u1),(98,(.bool (decide (x3.2.2=x14))))]) ⟨z,z,Aj⟩<|⟨(decide (x3.2.2=x14)),z,z,(((Ao hB12).then hB13).then hB14).below,hC35⟩
  replace hr11:=A8 hr11 hc7
  refine gs z z z z<|gs z z z z<|gs z z z z<|gs z z z z<|gs z z z z<|gs z z z z<|gs z z z z<|gs z z z z<|AZ z z z<|Ab<|?_
  obtain rfl:=Aa hr11
  have hC36:=hC32.h0
  exact Am (l':=[(0,u1),(98,(.bool false))]) ⟨z,z,Aj⟩<|⟨false,z,z,(Ao hB12).below,hC36⟩
 rintro _ w12 ⟨x11,rfl,rfl,hB11,hC31⟩
 try dsimp only at hF
 refine AE z (fun hc8=>?_) (fun hc8=>?_)
 ·replace hF:=A7 hF hc8
  refine Ac<|Ad z z<|Ab<|AL<|Av<|?_
  obtain rfl:=Aa hF
  exact A2 z z<|⟨_,z,AN hC31 _⟩
 replace hF:=A8 hF hc8
 refine AF<|Ap<|Ac<|Ae z z<|be hF fun x15 hr15 hF=>AG Tryz.call20 z z (c_S_DrawExplains a1 u1 (g1.now hC31.keep) x15 hr15)<|?_
 rintro _ w16 ⟨v13,v14,v15,v16,rfl,hq11⟩
 have hC37:Ctx [] w0 w16 [Af v13 (x15.1:(List Int)),Af v14 (x15.2.1:(List (Int × (List Int) × Int × Int × Int))),Af v15 (x15.2.2.1:(List (Int × (List Int)))),Af v16 (x15.2.2.2:(List ((Int × (List Int)) × (List (Int × (List Int))))))]:=hC31.push2 hq11
 refine Ae z z<|Bh z z z<|Bh z z z<|Bh z z z<|Bh z z z<|Ad z z<|Ad z z<|Ad z z<|Ad z z<|Ab<|A6<|be hF fun r3 hr16 hF=>BI (fun l w=>∃x16:Bool,x16=r3∧l=[(0,u1),(130,(.bool x16))]∧Below w16.heap.size w16 w∧Ctx [] w0 w []) ?_ ?_
 ·refine Bg<|Ae z z<|Ae z z<|Ae z z<|Ae z z<|be hr16 fun x17 hr17 hr16=>cb Tryz.call19 z z (c_M_Explains x15.1 v13 ((hC37.ro 0 z).now (A1 _ _)) x15.2.1 v14 ((hC37.ro 1 z).now (A1 _ _)) x15.2.2.1 v15 ((hC37.ro 2 z).now (A1 _ _)) x15.2.2.2 v16 ((hC37.ro 3 z).now (A1 _ _)) x17 hr17) fun w18 hB16=>have hC39:=hC37.grow hB16;Ae z z<|Ae z z<|Ae z z<|Ae z z<|be hr16 fun x18 hr18 hr16=>cb Tryz.call21 z z (c_S_Explains x15.1 v13 ((hC39.ro 0 z).now (A1 _ _)) x15.2.1 v14 ((hC39.ro 1 z).now (A1 _ _)) x15.2.2.1 v15 ((hC39.ro 2 z).now (A1 _ _)) x15.2.2.2 v16 ((hC39.ro 3 z).now (A1 _ _)) x18 hr18) fun w19 hB17=>have hC40:=hC39.grow hB17;WL_bool_neq BJ z z z<|Ae z z<|Bz (fun hc9=>?_) (fun hc9=>?_)
  ·replace hr16:=A7 hr16 hc9
   refine gs z z z z<|gs z z z z<|gs z z z z<|gs z z z z<|gs z z z z<|gs z z z z<|gs z z z z<|gs z z z z<|gs z z z z<|gs z z z z<|gs z z z z<|gs z z z z<|AW z z z<|Ab<|?_
   obtain rfl:=Aa hr16
   have hC41:=hC40.h0
   exact Am (l':=[(0,u1),(130,(.bool true))]) ⟨z,z,Aj⟩<|⟨true,z,z,((Ao hB16).then hB17).below,hC41⟩
  replace hr16:=A8 hr16 hc9
  refine Ah z z<|Ae z z<|Ah z z<|Ae z z<|Ah z z<|Ae z z<|Ah z z<|Ae z z<|be hr16 fun x19 hr19 hr16=>Ah z z<|cb Tryz.call21 z z (c_S_Explains x15.1 v13 ((hC40.ro 0 z).now (A1 _ _)) x15.2.1 v14 ((hC40.ro 1 z).now (A1 _ _)) x15.2.2.1 v15 ((hC40.ro 2 z).now (A1 _ _)) x15.2.2.2 v16 ((hC40.ro 3 z).now (A1 _ _)) x19 hr19) fun w20 hB18=>have hC42:=hC40.grow hB18;Ah z z<|Ae z z<|Bz (fun hc10=>?_) (fun hc10=>?_)
  ·replace hr16:=A7 hr16 hc10
   refine Ah z z<|Ae z z<|Ah z z<|Ae z z<|Ah z z<|Ae z z<|be hr16 fun x20 hr20 hr16=>Ah z z<|cb Tryz.call16 z z (c_M_IsConsistent x15.1 v13 ((hC42.ro 0 z).now (A1 _ _)) x15.2.1 v14 ((hC42.ro 1 z).now (A1 _ _)) x15.2.2.2 v16 ((hC42.ro 3 z).now (A1 _ _)) x20 hr20) fun w21 hB19=>have hC43:=hC42.grow hB19;Ah z z<|B3 z z<|Ah z z<|AW z z z<|AZ z z z<|Ab<|?_
   obtain rfl:=Aa hr16
   have hC44:=hC43.h0
   exact Am (l':=[(0,u1),(130,(.bool (!x20)))]) ⟨z,z,Aj⟩<|⟨(!x20),z,z,((((Ao hB16).then hB17).then hB18).then hB19).below,hC44⟩
  replace hr16:=A8 hr16 hc10
  refine gs z z z z<|gs z z z z<|gs z z z z<|gs z z z z<|gs z z z z<|Ah z z<|AZ z z z<|AZ z z z<|Ab<|?_
  obtain rfl:=Aa hr16
  have hC45:=hC42.h0
  exact Am (l':=[(0,u1),(130,(.bool false))]) ⟨z,z,Aj⟩<|⟨false,z,z,(((Ao hB16).then hB17).then hB18).below,hC45⟩
 rintro _ w17 ⟨x16,rfl,rfl,hB15,hC38⟩
 try dsimp only at hF
 refine AE z (fun hc11=>?_) (fun hc11=>?_)
 ·replace hF:=A7 hF hc11
  refine Ac<|Ad z z<|Ab<|AL<|Av<|?_
  obtain rfl:=Aa hF
  exact A2 z z<|⟨_,z,AN hC38 _⟩
 replace hF:=A8 hF hc11
 refine AF<|Ap<|Ac<|Ae z z<|be hF fun x21 hr21 hF=>AG Tryz.call22 z z (c_S_DrawBrokenRules a1 u1 (g1.now hC38.keep) x21 hr21)<|?_
 rintro _ w22 ⟨v17,v18,v19,v20,rfl,hq16⟩
 have hC46:Ctx [] w0 w22 [Af v17 (x21.1:(List Int)),Af v18 (x21.2.1:(List (Int × (List Int) × Int × Int × Int))),Af v19 (x21.2.2.1:(List (Int × Int × (List Int)))),Af v20 (x21.2.2.2:(List ((Int × (List Int)) × (List (Int × (List Int))))))]:=hC38.push2 hq16
 refine Ae z z<|Bh z z z<|Bh z z z<|Bh z z z<|Bh z z z<|Ad z z<|Ad z z<|Ad z z<|Ad z z<|Ab<|Ac<|Ae z z<|Ae z z<|Ae z z<|Ae z z<|be hF fun x22 hr22 hF=>AG Tryz.call23 z z (c_M_BrokenRules x21.1 v17 ((hC46.ro 0 z).now (A1 _ _)) x21.2.1 v18 ((hC46.ro 1 z).now (A1 _ _)) x21.2.2.1 v19 ((hC46.ro 2 z).now (A1 _ _)) x21.2.2.2 v20 ((hC46.ro 3 z).now (A1 _ _)) x22 hr22)<|?_
 rintro v21 w23 ⟨hB20,F13,hv23,hn9,hb9⟩
 have hC47:=hC46.push hB20 (A:=Af v21 x22) hv23 hn9 hb9
 refine Ad z z<|Ab<|Ac<|Ae z z<|be hF fun x23 hr23 hF=>AG Tryz.call24 z z (c_S_DrawDisagree a1 u1 (g1.now hC47.keep) x23 hr23)<|?_
 rintro _ w24 ⟨v22,v23,v24,v25,rfl,hq17⟩
 have hC48:Ctx [] w0 w24 [Af v22 (x23.1:(List Int)),Af v23 (x23.2.1:(List (Int × (List Int) × Int × Int × Int))),Af v24 (x23.2.2.1:((Int × (List Int)) × (List (Int × (List Int))))),Af v25 (x23.2.2.2:((Int × (List Int)) × (List (Int × (List Int))))),Af v21 (x22:(List (Int × (List Int)))),Af v17 (x21.1:(List Int)),Af v18 (x21.2.1:(List (Int × (List Int) × Int × Int × Int))),Af v19 (x21.2.2.1:(List (Int × Int × (List Int)))),Af v20 (x21.2.2.2:(List ((Int × (List Int)) × (List (Int × (List Int))))))]:=hC47.push2 hq17
 have hC49:=hC48.f2
 obtain ⟨v26,v27,rfl,hC50⟩:=st46_own hC49
 have hC51:=hC50.f4
 obtain ⟨v28,v29,rfl,hC52⟩:=st46_own hC51
 refine Ae z z<|Bh z z z<|Bh z z z<|Bh z z z<|Bh z z z<|Bw hC52 zero46 z z fun b1 w25 hC53 hB21 hN1=>Bw hC53 zero46 z z fun b2 w26 hC54 hB22 hN2=>Ad z z<|Ad z z<|AA (cs':=[(I x23.2.2.1.1.1),v26,v27]) (new:=[(I x23.2.2.1.1.1),v26,v27]) hC54 1 z z (fac z<|fac (B0 (hC54.ro 4 z))<|fac (B0 (hC54.ro 5 z))<|fa0) z AT z z fun w27 hC55 hKp1=>?_
 try dsimp only [List.set] at hC55
 have hk1:=AO ((((((((((((((Ao hB1).then hB2).then hB3).then hB4).then hB5).then hB6).then hB11).then hq11.keep.below).then hB15).then hq16.keep.below).then hB20).then hq17.keep.below).then hB21).then hB22) (AS ((((((((((((Ao hB1).then hB2).then hB3).then hB4).then hB5).then hB6).then hB11).then hq11.keep.below).then hB15).then hq16.keep.below).then hB20).then hq17.keep.below).size hN1) hKp1
 have hk2:=AO (((((((((((((Ao hB2).then hB3).then hB4).then hB5).then hB6).then hB11).then hq11.keep.below).then hB15).then hq16.keep.below).then hB20).then hq17.keep.below).then hB21).then hB22) (AS (((((((((((Ao hB2).then hB3).then hB4).then hB5).then hB6).then hB11).then hq11.keep.below).then hB15).then hq16.keep.below).then hB20).then hq17.keep.below).size hN1) hKp1
 have hk3:=AO ((((((((((((Ao hB3).then hB4).then hB5).then hB6).then hB11).then hq11.keep.below).then hB15).then hq16.keep.below).then hB20).then hq17.keep.below).then hB21).then hB22) (AS ((((((((((Ao hB3).then hB4).then hB5).then hB6).then hB11).then hq11.keep.below).then hB15).then hq16.keep.below).then hB20).then hq17.keep.below).size hN1) hKp1
 have hk4:=AO (((((((((((Ao hB4).then hB5).then hB6).then hB11).then hq11.keep.below).then hB15).then hq16.keep.below).then hB20).then hq17.keep.below).then hB21).then hB22) (AS (((((((((Ao hB4).then hB5).then hB6).then hB11).then hq11.keep.below).then hB15).then hq16.keep.below).then hB20).then hq17.keep.below).size hN1) hKp1
 have hk5:=AO ((((((((((Ao hB5).then hB6).then hB11).then hq11.keep.below).then hB15).then hq16.keep.below).then hB20).then hq17.keep.below).then hB21).then hB22) (AS ((((((((Ao hB5).then hB6).then hB11).then hq11.keep.below).then hB15).then hq16.keep.below).then hB20).then hq17.keep.below).size hN1) hKp1
 have hk6:=AO (((((((((Ao hB6).then hB11).then hq11.keep.below).then hB15).then hq16.keep.below).then hB20).then hq17.keep.below).then hB21).then hB22) (AS (((((((Ao hB6).then hB11).then hq11.keep.below).then hB15).then hq16.keep.below).then hB20).then hq17.keep.below).size hN1) hKp1
 have hk7:=AO ((((((((Ao hB11).then hq11.keep.below).then hB15).then hq16.keep.below).then hB20).then hq17.keep.below).then hB21).then hB22) (AS ((((((Ao hB11).then hq11.keep.below).then hB15).then hq16.keep.below).then hB20).then hq17.keep.below).size hN1) hKp1
 have hk8:=AO (((((((Ao hq11.keep.below).then hB15).then hq16.keep.below).then hB20).then hq17.keep.below).then hB21).then hB22) (AS (((((Ao hq11.keep.below).then hB15).then hq16.keep.below).then hB20).then hq17.keep.below).size hN1) hKp1
 have hk9:=AO ((((((Ao hB15).then hq16.keep.below).then hB20).then hq17.keep.below).then hB21).then hB22) (AS ((((Ao hB15).then hq16.keep.below).then hB20).then hq17.keep.below).size hN1) hKp1
 have hk10:=AO (((((Ao hq16.keep.below).then hB20).then hq17.keep.below).then hB21).then hB22) (AS (((Ao hq16.keep.below).then hB20).then hq17.keep.below).size hN1) hKp1
 have hk11:=AO ((((Ao hB20).then hq17.keep.below).then hB21).then hB22) (AS ((Ao hB20).then hq17.keep.below).size hN1) hKp1
 have hk12:=AO (((Ao hq17.keep.below).then hB21).then hB22) (AS (Ao hq17.keep.below).size hN1) hKp1
 have hk13:=AO ((Ao hB21).then hB22) hN1 hKp1
 refine AA (cs':=[(I x23.2.2.2.1.1),v28,v29]) (new:=[(I x23.2.2.2.1.1),v28,v29]) hC55 0 z z (fac z<|fac (B0 (hC55.ro 2 z))<|fac (B0 (hC55.ro 3 z))<|fa0) z AT z z (fun w28 hC56 hKp2=>?_)
 try dsimp only [List.set] at hC56
 have hk14:=AO hk1 (AS (((((((((((((Ao hB1).then hB2).then hB3).then hB4).then hB5).then hB6).then hB11).then hq11.keep.below).then hB15).then hq16.keep.below).then hB20).then hq17.keep.below).then hB21).size hN2) hKp2
 have hk15:=AO hk2 (AS ((((((((((((Ao hB2).then hB3).then hB4).then hB5).then hB6).then hB11).then hq11.keep.below).then hB15).then hq16.keep.below).then hB20).then hq17.keep.below).then hB21).size hN2) hKp2
 have hk16:=AO hk3 (AS (((((((((((Ao hB3).then hB4).then hB5).then hB6).then hB11).then hq11.keep.below).then hB15).then hq16.keep.below).then hB20).then hq17.keep.below).then hB21).size hN2) hKp2
 have hk17:=AO hk4 (AS ((((((((((Ao hB4).then hB5).then hB6).then hB11).then hq11.keep.below).then hB15).then hq16.keep.below).then hB20).then hq17.keep.below).then hB21).size hN2) hKp2
 have hk18:=AO hk5 (AS (((((((((Ao hB5).then hB6).then hB11).then hq11.keep.below).then hB15).then hq16.keep.below).then hB20).then hq17.keep.below).then hB21).size hN2) hKp2
 have hk19:=AO hk6 (AS ((((((((Ao hB6).then hB11).then hq11.keep.below).then hB15).then hq16.keep.below).then hB20).then hq17.keep.below).then hB21).size hN2) hKp2
 have hk20:=AO hk7 (AS (((((((Ao hB11).then hq11.keep.below).then hB15).then hq16.keep.below).then hB20).then hq17.keep.below).then hB21).size hN2) hKp2
 have hk21:=AO hk8 (AS ((((((Ao hq11.keep.below).then hB15).then hq16.keep.below).then hB20).then hq17.keep.below).then hB21).size hN2) hKp2
 have hk22:=AO hk9 (AS (((((Ao hB15).then hq16.keep.below).then hB20).then hq17.keep.below).then hB21).size hN2) hKp2
 have hk23:=AO hk10 (AS ((((Ao hq16.keep.below).then hB20).then hq17.keep.below).then hB21).size hN2) hKp2
 have hk24:=AO hk11 (AS (((Ao hB20).then hq17.keep.below).then hB21).size hN2) hKp2
 have hk25:=AO hk12 (AS ((Ao hq17.keep.below).then hB21).size hN2) hKp2
 have hk26:=AO hk13 (AS (Ao hB21).size hN2) hKp2
 refine Ab<|Ac<|Ae z z<|be hF fun x24 hr24 hF=>AG Tryz.call25 z z (c_S_DrawFitsSelf a1 u1 (g1.now hC56.keep) x24 hr24)<|?_
 rintro _ w29 ⟨hB23,v30,v31,v32,F14,F15,F16,rfl,hv24,hv25,hv26,hn11,hb11⟩
 have hC57:=hC56.pushL hB23 (Bs:=[Af v30 x24.1,Af v31 x24.2.1,Af v32 x24.2.2]) (Fs:=[F14,F15,F16]) ⟨F14,_,z,hv24,F15,_,z,hv25,F16,_,z,hv26,z⟩ (by simpa using hn11) (fun b h=>hb11 b (by simpa using h))
 have hC58:=hC57.f2
 obtain ⟨v33,v34,rfl,hC59⟩:=st46_own hC58
 refine Ae z z<|Bh z z z<|Bh z z z<|Bh z z z<|Bw hC59 zero46 z z fun b3 w30 hC60 hB24 hN3=>Ad z z<|Ad z z<|AA (cs':=[(I x24.2.2.1.1),v33,v34]) (new:=[(I x24.2.2.1.1),v33,v34]) hC60 0 z z (fac z<|fac (B0 (hC60.ro 1 z))<|fac (B0 (hC60.ro 2 z))<|fa0) z AT z z fun w31 hC61 hKp3=>?_
 try dsimp only [List.set] at hC61
 have hk27:=AO ((hk14.then hB23).then hB24) (AS (hk14.then hB23).size hN3) hKp3
 have hk28:=AO ((hk15.then hB23).then hB24) (AS (hk15.then hB23).size hN3) hKp3
 have hk29:=AO ((hk16.then hB23).then hB24) (AS (hk16.then hB23).size hN3) hKp3
 have hk30:=AO ((hk17.then hB23).then hB24) (AS (hk17.then hB23).size hN3) hKp3
 have hk31:=AO ((hk18.then hB23).then hB24) (AS (hk18.then hB23).size hN3) hKp3
 have hk32:=AO ((hk19.then hB23).then hB24) (AS (hk19.then hB23).size hN3) hKp3
 have hk33:=AO ((hk20.then hB23).then hB24) (AS (hk20.then hB23).size hN3) hKp3
 have hk34:=AO ((hk21.then hB23).then hB24) (AS (hk21.then hB23).size hN3) hKp3
 have hk35:=AO ((hk22.then hB23).then hB24) (AS (hk22.then hB23).size hN3) hKp3
 have hk36:=AO ((hk23.then hB23).then hB24) (AS (hk23.then hB23).size hN3) hKp3
 have hk37:=AO ((hk24.then hB23).then hB24) (AS (hk24.then hB23).size hN3) hKp3
 have hk38:=AO ((hk25.then hB23).then hB24) (AS (hk25.then hB23).size hN3) hKp3
 have hk39:=AO ((hk26.then hB23).then hB24) (AS (hk26.then hB23).size hN3) hKp3
 have hk40:=AO ((Ao hB23).then hB24) (AS (Ao hB23).size hN3) hKp3
 have hk41:=AO (Ao hB24) hN3 hKp3
 refine Ab<|be hF fun r4 hr25 hF=>BI (fun l w=>∃x25:Bool,x25=r4∧l=[(2,(.bool x25))]∧Below w31.heap.size w31 w∧Ctx [] w0 w []) ?_ ?_
 ·refine W_drawnM 69 z hmix fun w33 hB26=>have hC63:=hC61.grow hB26;tmM 0 z z z<|tmM 1 z z z<|tmM 2 z z z<|tmM 3 z z z<|tmM 4 z z z<|be hr25 fun x26 hr26 hr25=>oeM 5 z<|AG Tryz.call26 z z (c_S_BrokenRules x21.1 v17 ((hC63.ro 14 z).now (A1 _ _)) x21.2.1 v18 ((hC63.ro 15 z).now (A1 _ _)) x21.2.2.1 v19 ((hC63.ro 16 z).now (A1 _ _)) x21.2.2.2 v20 ((hC63.ro 17 z).now (A1 _ _)) x26 hr26)<|?_
  rintro v35 w34 ⟨hB27,F17,hv27,hn12,hb12⟩
  have hC64:=hC63.push hB27 (A:=Af v35 x26) hv27 hn12 hb12
  refine Ab<|be hr25 fun x27 hr27 hr25=>oeM 6 z<|cb Tryz.call14 z z (c_S_SameFacts x22 v21 ((hC64.ro 14 z).now (A1 _ _)) x26 v35 ((hC64.ro 0 z).now (A1 _ _)) x27 hr27) fun w35 hB28=>have hC65:=hC64.grow hB28;Ab<|tmM 7 z z z<|BC (fun hc12=>?_) (fun hc12=>?_)
  ·replace hr25:=A7 hr25 hc12
   refine tnM 8 z z z z z<|tnM 9 z z z z z<|tnM 13 z z z z z<|tnM 14 z z z z z<|be hr25 fun x28 hr28 hr25=>wASM (l':=[(0,u1),(17,v17),(18,v18),(19,v19),(20,v20),(21,v21),(22,v22),(23,v23),(24,(ptr b1 0)),(25,(ptr b2 0)),(26,v30),(27,v31),(28,(ptr b3 0)),(130,(.bool x16)),(131,(.tuple #[v17,v18,v19,v20])),(132,u1),(133,(.tuple #[v17,v18,v19,v20])),(134,v17),(135,v18),(136,v19),(137,v20),(138,v17),(139,v18),(140,v19),(141,v20),(142,v21),(143,(.tuple #[v22,v23,(.agg #[(I x23.2.2.1.1.1),v26,v27]),(.agg #[(I x23.2.2.2.1.1),v28,v29])])),(144,u1),(145,(.tuple #[v22,v23,(.agg #[(I x23.2.2.1.1.1),v26,v27]),(.agg #[(I x23.2.2.2.1.1),v28,v29])])),(146,v22),(147,v23),(148,(.agg #[(I x23.2.2.1.1.1),v26,v27])),(149,(.agg #[(I x23.2.2.2.1.1),v28,v29])),(150,(.tuple #[v30,v31,(.agg #[(I x24.2.2.1.1),v33,v34])])),(151,u1),(152,(.tuple #[v30,v31,(.agg #[(I x24.2.2.1.1),v33,v34])])),(153,v30),(154,v31),(155,(.agg #[(I x24.2.2.1.1),v33,v34])),(156,v21),(157,v17),(158,v18),(159,v19),(160,v20),(161,v35),(162,(.bool x27)),(163,(.bool true)),(164,v22),(165,v23),(169,v22),(170,v23)]) ⟨z,z,z,z,z,z,z,z,z,z,z,z,z,z,z,z,z,z,z,z,z,z,z,z,z,z,z,z,z,z,z,z,z,z,z,z,z,z,z,z,z,z,z,z,z,z,z,z,z,z,z,Aj⟩<|WA_postsEM [⟨10,[],fun vs=>Ba (.agg #[(I x23.2.2.1.1.1),v26,v27]),[]⟩,⟨11,[],fun vs=>Ba (.agg #[(I x23.2.2.2.1.1),v28,v29]),[]⟩,⟨12,[],fun vs=>Ba (.bool x28),[]⟩,⟨15,[],fun vs=>Ba (.agg #[(I x23.2.2.1.1.1),v26,v27]),[]⟩,⟨16,[],fun vs=>Ba (.agg #[(I x23.2.2.2.1.1),v28,v29]),[]⟩] [[],[],[10,11],[],[]] 52 z (by kernel_rfl) (by kernel_rfl) z ?_ ?_
   ·refine An z ?_ ?_
    ·intro w37 hB30
     refine At<|⟨_,z,?_⟩
     exact Ah z z<|Au [(I x23.2.2.1.1.1),v26,v27] (hC65.grow hB30) 7 z z z Bm AT z z<|Ab<|Aw (Al _ _) z z ⟨z,z⟩
    refine An z ?_ ?_
    ·intro w37 hB30
     refine At<|⟨_,z,?_⟩
     exact Ah z z<|Au [(I x23.2.2.2.1.1),v28,v29] (hC65.grow hB30) 6 z z z Bm AT z z<|Ab<|Aw (Al _ _) z z ⟨z,z⟩
    refine An z ?_ ?_
    ·intro w37 hB30
     refine AD z z z ?_
     rintro _ _ ⟨rfl,rfl⟩ _
     refine AD z z z ?_
     rintro _ _ ⟨rfl,rfl⟩ _
     refine At<|⟨_,z,?_⟩
     exact Ah z z<|cb CY z z (c_M_Disagree x23.1 v22 ((hC65.grow hB30).ro 12 z) x23.2.1 v23 ((hC65.grow hB30).ro 13 z) ((x23.2.2.1.1.1,x23.2.2.1.1.2),x23.2.2.1.2) v26 ((hC65.grow hB30).ro 10 z) v27 ((hC65.grow hB30).ro 11 z) ((x23.2.2.2.1.1,x23.2.2.2.1.2),x23.2.2.2.2) v28 ((hC65.grow hB30).ro 8 z) v29 ((hC65.grow hB30).ro 9 z) x28 hr28) fun w36 hB29=>Ab<|Aw hB29 z z ⟨z,z⟩
    refine An z ?_ ?_
    ·intro w37 hB30
     refine At<|⟨_,z,?_⟩
     exact Ah z z<|Au [(I x23.2.2.1.1.1),v26,v27] (hC65.grow hB30) 7 z z z Bm AT z z<|Ab<|Aw (Al _ _) z z ⟨z,z⟩
    refine An z ?_ ?_
    ·intro w37 hB30
     refine At<|⟨_,z,?_⟩
     exact Ah z z<|Au [(I x23.2.2.2.1.1),v28,v29] (hC65.grow hB30) 6 z z z Bm AT z z<|Ab<|Aw (Al _ _) z z ⟨z,z⟩
    exact Bj
   intro w38 hB31
   refine Ar z z z ?_
   rintro _ _ ⟨rfl,rfl⟩
   refine Ar z z z ?_
   rintro _ _ ⟨rfl,rfl⟩
   refine Ar z z z ?_
   rintro _ _ ⟨rfl,rfl⟩
   refine Ar z z z ?_
   rintro _ _ ⟨rfl,rfl⟩
   refine Ar z z z ?_
   rintro _ _ ⟨rfl,rfl⟩
   refine Bt fun hn13 hb13=>have hC66:=hC65.grow hB31;be hr25 fun x29 hr29 hr25=>oeM 17 z<|Ah z z<|cb Tryz.call28 z z (c_S_Disagree x23.1 v22 ((hC66.ro 12 z).now (A1 _ _)) x23.2.1 v23 ((hC66.ro 13 z).now (A1 _ _)) ((x23.2.2.1.1.1,x23.2.2.1.1.2),x23.2.2.1.2) v26 ((hC66.ro 10 z).now (A1 _ _)) v27 ((hC66.ro 11 z).now (A1 _ _)) ((x23.2.2.2.1.1,x23.2.2.2.1.2),x23.2.2.2.2) v28 ((hC66.ro 8 z).now (A1 _ _)) v29 ((hC66.ro 9 z).now (A1 _ _)) x29 hr29) fun w39 hB32=>have hC67:=hC66.grow hB32;Ab<|tgM 18 z z z z (CZ BJ z z)<|Ah z z<|CB BJ z z z<|Ab<|tpM 19 z z z z<|tmM 20 z z z<|BC (fun hc13=>?_) (fun hc13=>?_)
   ·replace hr25:=A7 hr25 hc13
    refine tnM 21 z z z z z<|tnM 22 z z z z z<|tnM 26 z z z z z<|tnM 27 z z z z z<|be hr25 fun x30 hr30 hr25=>wASM (l':=[(0,u1),(17,v17),(18,v18),(19,v19),(20,v20),(21,v21),(22,v22),(23,v23),(24,(ptr b1 0)),(25,(ptr b2 0)),(26,v30),(27,v31),(28,(ptr b3 0)),(130,(.bool x16)),(131,(.tuple #[v17,v18,v19,v20])),(132,u1),(133,(.tuple #[v17,v18,v19,v20])),(134,v17),(135,v18),(136,v19),(137,v20),(138,v17),(139,v18),(140,v19),(141,v20),(142,v21),(143,(.tuple #[v22,v23,(.agg #[(I x23.2.2.1.1.1),v26,v27]),(.agg #[(I x23.2.2.2.1.1),v28,v29])])),(144,u1),(145,(.tuple #[v22,v23,(.agg #[(I x23.2.2.1.1.1),v26,v27]),(.agg #[(I x23.2.2.2.1.1),v28,v29])])),(146,v22),(147,v23),(148,(.agg #[(I x23.2.2.1.1.1),v26,v27])),(149,(.agg #[(I x23.2.2.2.1.1),v28,v29])),(150,(.tuple #[v30,v31,(.agg #[(I x24.2.2.1.1),v33,v34])])),(151,u1),(152,(.tuple #[v30,v31,(.agg #[(I x24.2.2.1.1),v33,v34])])),(153,v30),(154,v31),(155,(.agg #[(I x24.2.2.1.1),v33,v34])),(156,v21),(157,v17),(158,v18),(159,v19),(160,v20),(161,v35),(162,(.bool x27)),(163,(.bool true)),(164,v22),(165,v23),(166,(.agg #[(I x23.2.2.1.1.1),v26,v27])),(167,(.agg #[(I x23.2.2.2.1.1),v28,v29])),(168,(.bool x28)),(169,v22),(170,v23),(171,(.agg #[(I x23.2.2.1.1.1),v26,v27])),(172,(.agg #[(I x23.2.2.2.1.1),v28,v29])),(173,(.bool x29)),(174,(.bool (decide (x28=x29)))),(175,(.bool (decide (x28=x29)))),(176,(.bool true)),(177,v22),(178,v23),(182,v22),(183,v23)]) ⟨z,z,z,z,z,z,z,z,z,z,z,z,z,z,z,z,z,z,z,z,z,z,z,z,z,z,z,z,z,z,z,z,z,z,z,z,z,z,z,z,z,z,z,z,z,z,z,z,z,z,z,z,z,z,z,z,z,z,z,z,z,z,z,z,Aj⟩<|WA_postsEM [⟨23,[],fun vs=>Ba (.agg #[(I x23.2.2.1.1.1),v26,v27]),[]⟩,⟨24,[],fun vs=>Ba (.agg #[(I x23.2.2.2.1.1),v28,v29]),[]⟩,⟨25,[],fun vs=>Ba (.bool x30),[]⟩,⟨28,[],fun vs=>Ba (.agg #[(I x23.2.2.2.1.1),v28,v29]),[]⟩,⟨29,[],fun vs=>Ba (.agg #[(I x23.2.2.1.1.1),v26,v27]),[]⟩] [[],[],[23,24],[],[]] 39 z (by kernel_rfl) (by kernel_rfl) z ?_ ?_
    ·refine An z ?_ ?_
     ·intro w41 hB34
      refine At<|⟨_,z,?_⟩
      exact Ah z z<|Au [(I x23.2.2.1.1.1),v26,v27] (hC67.grow hB34) 7 z z z Bm AT z z<|Ab<|Aw (Al _ _) z z ⟨z,z⟩
     refine An z ?_ ?_
     ·intro w41 hB34
      refine At<|⟨_,z,?_⟩
      exact Ah z z<|Au [(I x23.2.2.2.1.1),v28,v29] (hC67.grow hB34) 6 z z z Bm AT z z<|Ab<|Aw (Al _ _) z z ⟨z,z⟩
     refine An z ?_ ?_
     ·intro w41 hB34
      refine AD z z z ?_
      rintro _ _ ⟨rfl,rfl⟩ _
      refine AD z z z ?_
      rintro _ _ ⟨rfl,rfl⟩ _
      refine At<|⟨_,z,?_⟩
      exact Ah z z<|cb CY z z (c_M_Disagree x23.1 v22 ((hC67.grow hB34).ro 12 z) x23.2.1 v23 ((hC67.grow hB34).ro 13 z) ((x23.2.2.1.1.1,x23.2.2.1.1.2),x23.2.2.1.2) v26 ((hC67.grow hB34).ro 10 z) v27 ((hC67.grow hB34).ro 11 z) ((x23.2.2.2.1.1,x23.2.2.2.1.2),x23.2.2.2.2) v28 ((hC67.grow hB34).ro 8 z) v29 ((hC67.grow hB34).ro 9 z) x30 hr30) fun w40 hB33=>Ab<|Aw hB33 z z ⟨z,z⟩
     refine An z ?_ ?_
     ·intro w41 hB34
      refine At<|⟨_,z,?_⟩
      exact Ah z z<|Au [(I x23.2.2.2.1.1),v28,v29] (hC67.grow hB34) 6 z z z Bm AT z z<|Ab<|Aw (Al _ _) z z ⟨z,z⟩
     refine An z ?_ ?_
     ·intro w41 hB34
      refine At<|⟨_,z,?_⟩
      exact Ah z z<|Au [(I x23.2.2.1.1.1),v26,v27] (hC67.grow hB34) 7 z z z Bm AT z z<|Ab<|Aw (Al _ _) z z ⟨z,z⟩
     exact Bj
    intro w42 hB35
    refine Ar z z z ?_
    rintro _ _ ⟨rfl,rfl⟩
    refine Ar z z z ?_
    rintro _ _ ⟨rfl,rfl⟩
    refine Ar z z z ?_
    rintro _ _ ⟨rfl,rfl⟩
    refine Ar z z z ?_
    rintro _ _ ⟨rfl,rfl⟩
    refine Ar z z z ?_
    rintro _ _ ⟨rfl,rfl⟩
    refine Bt fun hn14 hb14=>have hC68:=hC67.grow hB35;be hr25 fun x31 hr31 hr25=>oeM 30 z<|Ah z z<|cb CY z z (c_M_Disagree x23.1 v22 ((hC68.ro 12 z).now (A1 _ _)) x23.2.1 v23 ((hC68.ro 13 z).now (A1 _ _)) ((x23.2.2.2.1.1,x23.2.2.2.1.2),x23.2.2.2.2) v28 ((hC68.ro 8 z).now (A1 _ _)) v29 ((hC68.ro 9 z).now (A1 _ _)) ((x23.2.2.1.1.1,x23.2.2.1.1.2),x23.2.2.1.2) v26 ((hC68.ro 10 z).now (A1 _ _)) v27 ((hC68.ro 11 z).now (A1 _ _)) x31 hr31) fun w43 hB36=>have hC69:=hC68.grow hB36;Ab<|tgM 31 z z z z (CZ BJ z z)<|Ah z z<|CB BJ z z z<|Ab<|tpM 32 z z z z<|tmM 33 z z z<|BC (fun hc14=>?_) (fun hc14=>?_)
    ·replace hr25:=A7 hr25 hc14
     refine tnM 34 z z z z z<|tnM 35 z z z z z<|tnM 38 z z z z z<|tnM 39 z z z z z<|be hr25 fun x32 hr32 hr25=>wASM (l':=[(0,u1),(17,v17),(18,v18),(19,v19),(20,v20),(21,v21),(22,v22),(23,v23),(24,(ptr b1 0)),(25,(ptr b2 0)),(26,v30),(27,v31),(28,(ptr b3 0)),(130,(.bool x16)),(131,(.tuple #[v17,v18,v19,v20])),(132,u1),(133,(.tuple #[v17,v18,v19,v20])),(134,v17),(135,v18),(136,v19),(137,v20),(138,v17),(139,v18),(140,v19),(141,v20),(142,v21),(143,(.tuple #[v22,v23,(.agg #[(I x23.2.2.1.1.1),v26,v27]),(.agg #[(I x23.2.2.2.1.1),v28,v29])])),(144,u1),(145,(.tuple #[v22,v23,(.agg #[(I x23.2.2.1.1.1),v26,v27]),(.agg #[(I x23.2.2.2.1.1),v28,v29])])),(146,v22),(147,v23),(148,(.agg #[(I x23.2.2.1.1.1),v26,v27])),(149,(.agg #[(I x23.2.2.2.1.1),v28,v29])),(150,(.tuple #[v30,v31,(.agg #[(I x24.2.2.1.1),v33,v34])])),(151,u1),(152,(.tuple #[v30,v31,(.agg #[(I x24.2.2.1.1),v33,v34])])),(153,v30),(154,v31),(155,(.agg #[(I x24.2.2.1.1),v33,v34])),(156,v21),(157,v17),(158,v18),(159,v19),(160,v20),(161,v35),(162,(.bool x27)),(163,(.bool true)),(164,v22),(165,v23),(166,(.agg #[(I x23.2.2.1.1.1),v26,v27])),(167,(.agg #[(I x23.2.2.2.1.1),v28,v29])),(168,(.bool x28)),(169,v22),(170,v23),(171,(.agg #[(I x23.2.2.1.1.1),v26,v27])),(172,(.agg #[(I x23.2.2.2.1.1),v28,v29])),(173,(.bool x29)),(174,(.bool (decide (x28=x29)))),(175,(.bool (decide (x28=x29)))),(176,(.bool true)),(177,v22),(178,v23),(179,(.agg #[(I x23.2.2.1.1.1),v26,v27])),(180,(.agg #[(I x23.2.2.2.1.1),v28,v29])),(181,(.bool x30)),(182,v22),(183,v23),(184,(.agg #[(I x23.2.2.2.1.1),v28,v29])),(185,(.agg #[(I x23.2.2.1.1.1),v26,v27])),(186,(.bool x31)),(187,(.bool (decide (x30=x31)))),(188,(.bool (decide (x30=x31)))),(189,(.bool true)),(190,v30),(191,v31),(194,v30),(195,v31)]) ⟨z,z,z,z,z,z,z,z,z,z,z,z,z,z,z,z,z,z,z,z,z,z,z,z,z,z,z,z,z,z,z,z,z,z,z,z,z,z,z,z,z,z,z,z,z,z,z,z,z,z,z,z,z,z,z,z,z,z,z,z,z,z,z,z,z,z,z,z,z,z,z,z,z,z,z,z,z,Aj⟩<|WA_postsEM [⟨36,[],fun vs=>Ba (.agg #[(I x24.2.2.1.1),v33,v34]),[]⟩,⟨37,[],fun vs=>Ba (.bool x32),[]⟩,⟨40,[],fun vs=>Ba (.agg #[(I x24.2.2.1.1),v33,v34]),[]⟩] [[],[36],[]] 28 z (by kernel_rfl) (by kernel_rfl) z ?_ ?_
     ·refine An z ?_ ?_
      ·intro w45 hB38
       refine At<|⟨_,z,?_⟩
       exact Ah z z<|Au [(I x24.2.2.1.1),v33,v34] (hC69.grow hB38) 1 z z z Bm AT z z<|Ab<|Aw (Al _ _) z z ⟨z,z⟩
      refine An z ?_ ?_
      ·intro w45 hB38
       refine AD z z z ?_
       rintro _ _ ⟨rfl,rfl⟩ _
       refine At<|⟨_,z,?_⟩
       exact Ah z z<|cb C7 z z (c_M_FitsSelf x24.1 v30 ((hC69.grow hB38).ro 4 z) x24.2.1 v31 ((hC69.grow hB38).ro 5 z) ((x24.2.2.1.1,x24.2.2.1.2),x24.2.2.2) v33 ((hC69.grow hB38).ro 2 z) v34 ((hC69.grow hB38).ro 3 z) x32 hr32) fun w44 hB37=>Ab<|Aw hB37 z z ⟨z,z⟩
      refine An z ?_ ?_
      ·intro w45 hB38
       refine At<|⟨_,z,?_⟩
       exact Ah z z<|Au [(I x24.2.2.1.1),v33,v34] (hC69.grow hB38) 1 z z z Bm AT z z<|Ab<|Aw (Al _ _) z z ⟨z,z⟩
      exact Bj
     intro w46 hB39
     refine Ar z z z ?_
     rintro _ _ ⟨rfl,rfl⟩
     refine Ar z z z ?_
     rintro _ _ ⟨rfl,rfl⟩
     refine Ar z z z ?_
     rintro _ _ ⟨rfl,rfl⟩
     refine Bt fun hn15 hb15=>have hC70:=hC69.grow hB39;be hr25 fun x33 hr33 hr25=>oeM 41 z<|Ah z z<|cb C8 z z (c_S_FitsSelf x24.1 v30 ((hC70.ro 4 z).now (A1 _ _)) x24.2.1 v31 ((hC70.ro 5 z).now (A1 _ _)) ((x24.2.2.1.1,x24.2.2.1.2),x24.2.2.2) v33 ((hC70.ro 2 z).now (A1 _ _)) v34 ((hC70.ro 3 z).now (A1 _ _)) x33 hr33) fun w47 hB40=>have hC71:=hC70.grow hB40;Ab<|tgM 42 z z z z (CZ BJ z z)<|Ah z z<|CB BJ z z z<|Ab<|tpM 43 z z z z<|tmM 44 z z z<|BC (fun hc15=>?_) (fun hc15=>?_)
     ·replace hr25:=A7 hr25 hc15
      refine tnM 45 z z z z z<|tnM 46 z z z z z<|tnM 49 z z z z z<|tnM 50 z z z z z<|be hr25 fun x34 hr34 hr25=>wASM (l':=[(0,u1),(17,v17),(18,v18),(19,v19),(20,v20),(21,v21),(22,v22),(23,v23),(24,(ptr b1 0)),(25,(ptr b2 0)),(26,v30),(27,v31),(28,(ptr b3 0)),(130,(.bool x16)),(131,(.tuple #[v17,v18,v19,v20])),(132,u1),(133,(.tuple #[v17,v18,v19,v20])),(134,v17),(135,v18),(136,v19),(137,v20),(138,v17),(139,v18),(140,v19),(141,v20),(142,v21),(143,(.tuple #[v22,v23,(.agg #[(I x23.2.2.1.1.1),v26,v27]),(.agg #[(I x23.2.2.2.1.1),v28,v29])])),(144,u1),(145,(.tuple #[v22,v23,(.agg #[(I x23.2.2.1.1.1),v26,v27]),(.agg #[(I x23.2.2.2.1.1),v28,v29])])),(146,v22),(147,v23),(148,(.agg #[(I x23.2.2.1.1.1),v26,v27])),(149,(.agg #[(I x23.2.2.2.1.1),v28,v29])),(150,(.tuple #[v30,v31,(.agg #[(I x24.2.2.1.1),v33,v34])])),(151,u1),(152,(.tuple #[v30,v31,(.agg #[(I x24.2.2.1.1),v33,v34])])),(153,v30),(154,v31),(155,(.agg #[(I x24.2.2.1.1),v33,v34])),(156,v21),(157,v17),(158,v18),(159,v19),(160,v20),(161,v35),(162,(.bool x27)),(163,(.bool true)),(164,v22),(165,v23),(166,(.agg #[(I x23.2.2.1.1.1),v26,v27])),(167,(.agg #[(I x23.2.2.2.1.1),v28,v29])),(168,(.bool x28)),(169,v22),(170,v23),(171,(.agg #[(I x23.2.2.1.1.1),v26,v27])),(172,(.agg #[(I x23.2.2.2.1.1),v28,v29])),(173,(.bool x29)),(174,(.bool (decide (x28=x29)))),(175,(.bool (decide (x28=x29)))),(176,(.bool true)),(177,v22),(178,v23),(179,(.agg #[(I x23.2.2.1.1.1),v26,v27])),(180,(.agg #[(I x23.2.2.2.1.1),v28,v29])),(181,(.bool x30)),(182,v22),(183,v23),(184,(.agg #[(I x23.2.2.2.1.1),v28,v29])),(185,(.agg #[(I x23.2.2.1.1.1),v26,v27])),(186,(.bool x31)),(187,(.bool (decide (x30=x31)))),(188,(.bool (decide (x30=x31)))),(189,(.bool true)),(190,v30),(191,v31),(192,(.agg #[(I x24.2.2.1.1),v33,v34])),(193,(.bool x32)),(194,v30),(195,v31),(196,(.agg #[(I x24.2.2.1.1),v33,v34])),(197,(.bool x33)),(198,(.bool (decide (x32=x33)))),(199,(.bool (decide (x32=x33)))),(200,(.bool true)),(201,v30),(202,v31),(205,v30),(206,v31)]) ⟨z,z,z,z,z,z,z,z,z,z,z,z,z,z,z,z,z,z,z,z,z,z,z,z,z,z,z,z,z,z,z,z,z,z,z,z,z,z,z,z,z,z,z,z,z,z,z,z,z,z,z,z,z,z,z,z,z,z,z,z,z,z,z,z,z,z,z,z,z,z,z,z,z,z,z,z,z,z,z,z,z,z,z,z,z,z,z,z,Aj⟩<|WA_postsEM [⟨47,[],fun vs=>Ba (.agg #[(I x24.2.2.1.1),v33,v34]),[]⟩,⟨48,[],fun vs=>Ba (.bool x34),[]⟩,⟨51,[],fun vs=>Ba (.agg #[(I x24.2.2.1.1),v33,v34]),[]⟩] [[],[47],[]] 17 z (by kernel_rfl) (by kernel_rfl) z ?_ ?_
      ·refine An z ?_ ?_
       ·intro w49 hB42
        refine At<|⟨_,z,?_⟩
        exact Ah z z<|Au [(I x24.2.2.1.1),v33,v34] (hC71.grow hB42) 1 z z z Bm AT z z<|Ab<|Aw (Al _ _) z z ⟨z,z⟩
       refine An z ?_ ?_
       ·intro w49 hB42
        refine AD z z z ?_
        rintro _ _ ⟨rfl,rfl⟩ _
        refine At<|⟨_,z,?_⟩
        exact Ah z z<|cb Tryz.call31 z z (c_M_IsTold x24.1 v30 ((hC71.grow hB42).ro 4 z) x24.2.1 v31 ((hC71.grow hB42).ro 5 z) ((x24.2.2.1.1,x24.2.2.1.2),x24.2.2.2) v33 ((hC71.grow hB42).ro 2 z) v34 ((hC71.grow hB42).ro 3 z) x34 hr34) fun w48 hB41=>Ab<|Aw hB41 z z ⟨z,z⟩
       refine An z ?_ ?_
       ·intro w49 hB42
        refine At<|⟨_,z,?_⟩
        exact Ah z z<|Au [(I x24.2.2.1.1),v33,v34] (hC71.grow hB42) 1 z z z Bm AT z z<|Ab<|Aw (Al _ _) z z ⟨z,z⟩
       exact Bj
      intro w50 hB43
      refine Ar z z z ?_
      rintro _ _ ⟨rfl,rfl⟩
      refine Ar z z z ?_
      rintro _ _ ⟨rfl,rfl⟩
      refine Ar z z z ?_
      rintro _ _ ⟨rfl,rfl⟩
      refine Bt fun hn16 hb16=>have hC72:=hC71.grow hB43;be hr25 fun x35 hr35 hr25=>oeM 52 z<|Ah z z<|cb Tryz.call32 z z (c_S_IsTold x24.1 v30 ((hC72.ro 4 z).now (A1 _ _)) x24.2.1 v31 ((hC72.ro 5 z).now (A1 _ _)) ((x24.2.2.1.1,x24.2.2.1.2),x24.2.2.2) v33 ((hC72.ro 2 z).now (A1 _ _)) v34 ((hC72.ro 3 z).now (A1 _ _)) x35 hr35) fun w51 hB44=>have hC73:=hC72.grow hB44;Ab<|tgM 53 z z z z (CZ BJ z z)<|Ah z z<|CB BJ z z z<|Ab<|tpM 54 z z z z<|tmM 55 z z z<|BC (fun hc16=>?_) (fun hc16=>?_)
      ·replace hr25:=A7 hr25 hc16
       refine tnM 56 z z z z z<|tgM 57 z z z z (Df Ai (hC73.ro 14 z) z)<|Ah z z<|Bc Ai (hC73.ro 14 z) z z<|Ab<|tgM 58 z z z z (CR z z)<|Ah z z<|BM z z z<|Ab<|tnM 59 z z z z z<|BC (fun hc17=>?_) (fun hc17=>?_)
       ·replace hr25:=A7 hr25 hc17
        refine skM 60 z z z z z<|skM 61 z z z z z<|skM 62 z z z z z<|skM 63 z z z z z<|skM 64 z z z z z<|skM 65 z z z z z<|tgM 66 z z z z (Cg z z)<|Ah z z<|AW z z z<|Ab<|tpM 67 z z z z<|taM 68 z z z<|dnM<|?_
        obtain rfl:=Aa hr25
        have hC74:=hC73.h0
        exact Am (l':=[(2,(.bool true))]) ⟨z,Aj⟩<|⟨true,z,z,(((((((((((Ao hB26).then hB27).then hB28).then hB31).then hB32).then hB35).then hB36).then hB39).then hB40).then hB43).then hB44).below,hC74⟩
       replace hr25:=A8 hr25 hc17
       refine tnM 60 z z z z z<|tnM 61 z z z z z<|tnM 62 z z z z z<|be hr25 fun x36 hr36 hr25=>oeM 63 z<|Ah z z<|AG C9 z z (c_S_UnionOf x21.2.2.2 v20 ((hC73.ro 18 z).now (A1 _ _)) x36 hr36)<|?_
       rintro v36 w52 ⟨hB45,F18,hv37,hn17,hb17⟩
       have hC75:=hC73.push hB45 (A:=Af v36 x36) hv37 hn17 hb17
       refine Ab<|be hr25 fun x37 hr37 hr25=>oeM 64 z<|Ah z z<|cb Tryz.call33 z z (c_S_SatisfiesRules x21.1 v17 ((hC75.ro 16 z).now (A1 _ _)) x21.2.2.1 v19 ((hC75.ro 18 z).now (A1 _ _)) x36 v36 ((hC75.ro 0 z).now (A1 _ _)) x37 hr37) fun w53 hB46=>have hC76:=hC75.grow hB46;Ab<|tgM 65 z z z z (Cl z)<|Ah z z<|B3 z z<|Ab<|tgM 66 z z z z (Ci z z)<|Ah z z<|AZ z z z<|Ab<|tpM 67 z z z z<|taM 68 z z z<|dnM<|?_
       obtain rfl:=Aa hr25
       have hC77:=hC76.h0
       exact Am (l':=[(2,(.bool (!x37)))]) ⟨z,Aj⟩<|⟨(!x37),z,z,(((((((((((((Ao hB26).then hB27).then hB28).then hB31).then hB32).then hB35).then hB36).then hB39).then hB40).then hB43).then hB44).then hB45).then hB46).below,hC77⟩
      replace hr25:=A8 hr25 hc16
      refine skM 56 z z z z z<|skM 57 z z z z z<|skM 58 z z z z z<|skM 59 z z z z z<|skM 60 z z z z z<|skM 61 z z z z z<|skM 62 z z z z z<|skM 63 z z z z z<|skM 64 z z z z z<|skM 65 z z z z z<|skM 66 z z z z z<|tqM 67 z z z z<|taM 68 z z z<|dnM<|?_
      obtain rfl:=Aa hr25
      have hC78:=hC73.h0
      exact Am (l':=[(2,(.bool false))]) ⟨z,Aj⟩<|⟨false,z,z,(((((((((((Ao hB26).then hB27).then hB28).then hB31).then hB32).then hB35).then hB36).then hB39).then hB40).then hB43).then hB44).below,hC78⟩
     replace hr25:=A8 hr25 hc15
     refine skM 45 z z z z z<|skM 46 z z z z z<|skM 47 z z z z z<|skM 48 z z z z z<|skM 49 z z z z z<|skM 50 z z z z z<|skM 51 z z z z z<|skM 52 z z z z z<|skM 53 z z z z z<|tqM 54 z z z z<|tmM 55 z z z<|skM 56 z z z z z<|skM 57 z z z z z<|skM 58 z z z z z<|skM 59 z z z z z<|skM 60 z z z z z<|skM 61 z z z z z<|skM 62 z z z z z<|skM 63 z z z z z<|skM 64 z z z z z<|skM 65 z z z z z<|skM 66 z z z z z<|tqM 67 z z z z<|taM 68 z z z<|dnM<|?_
     obtain rfl:=Aa hr25
     have hC79:=hC71.h0
     exact Am (l':=[(2,(.bool false))]) ⟨z,Aj⟩<|⟨false,z,z,(((((((((Ao hB26).then hB27).then hB28).then hB31).then hB32).then hB35).then hB36).then hB39).then hB40).below,hC79⟩
    replace hr25:=A8 hr25 hc14
    refine skM 34 z z z z z<|skM 35 z z z z z<|skM 36 z z z z z<|skM 37 z z z z z<|skM 38 z z z z z<|skM 39 z z z z z<|skM 40 z z z z z<|skM 41 z z z z z<|skM 42 z z z z z<|tqM 43 z z z z<|tmM 44 z z z<|skM 45 z z z z z<|skM 46 z z z z z<|skM 47 z z z z z<|skM 48 z z z z z<|skM 49 z z z z z<|skM 50 z z z z z<|skM 51 z z z z z<|skM 52 z z z z z<|skM 53 z z z z z<|tqM 54 z z z z<|tmM 55 z z z<|skM 56 z z z z z<|skM 57 z z z z z<|skM 58 z z z z z<|skM 59 z z z z z<|skM 60 z z z z z<|skM 61 z z z z z<|skM 62 z z z z z<|skM 63 z z z z z<|skM 64 z z z z z<|skM 65 z z z z z<|skM 66 z z z z z<|tqM 67 z z z z<|taM 68 z z z<|dnM<|?_
    obtain rfl:=Aa hr25
    have hC80:=hC69.h0
    exact Am (l':=[(2,(.bool false))]) ⟨z,Aj⟩<|⟨false,z,z,(((((((Ao hB26).then hB27).then hB28).then hB31).then hB32).then hB35).then hB36).below,hC80⟩
   replace hr25:=A8 hr25 hc13
   refine skM 21 z z z z z<|skM 22 z z z z z<|skM 23 z z z z z<|skM 24 z z z z z<|skM 25 z z z z z<|skM 26 z z z z z<|skM 27 z z z z z<|skM 28 z z z z z<|skM 29 z z z z z<|skM 30 z z z z z<|skM 31 z z z z z<|tqM 32 z z z z<|tmM 33 z z z<|skM 34 z z z z z<|skM 35 z z z z z<|skM 36 z z z z z<|skM 37 z z z z z<|skM 38 z z z z z<|skM 39 z z z z z<|skM 40 z z z z z<|skM 41 z z z z z<|skM 42 z z z z z<|tqM 43 z z z z<|tmM 44 z z z<|skM 45 z z z z z<|skM 46 z z z z z<|skM 47 z z z z z<|skM 48 z z z z z<|skM 49 z z z z z<|skM 50 z z z z z<|skM 51 z z z z z<|skM 52 z z z z z<|skM 53 z z z z z<|tqM 54 z z z z<|tmM 55 z z z<|skM 56 z z z z z<|skM 57 z z z z z<|skM 58 z z z z z<|skM 59 z z z z z<|skM 60 z z z z z<|skM 61 z z z z z<|skM 62 z z z z z<|skM 63 z z z z z<|skM 64 z z z z z<|skM 65 z z z z z<|skM 66 z z z z z<|tqM 67 z z z z<|taM 68 z z z<|dnM<|?_
   obtain rfl:=Aa hr25
   have hC81:=hC67.h0
   exact Am (l':=[(2,(.bool false))]) ⟨z,Aj⟩<|⟨false,z,z,(((((Ao hB26).then hB27).then hB28).then hB31).then hB32).below,hC81⟩
  replace hr25:=A8 hr25 hc12
  refine skM 8 z z z z z<|skM 9 z z z z z<|skM 10 z z z z z<|skM 11 z z z z z<|skM 12 z z z z z<|skM 13 z z z z z<|skM 14 z z z z z<|skM 15 z z z z z<|skM 16 z z z z z<|skM 17 z z z z z<|skM 18 z z z z z<|tqM 19 z z z z<|tmM 20 z z z<|skM 21 z z z z z<|skM 22 z z z z z<|skM 23 z z z z z<|skM 24 z z z z z<|skM 25 z z z z z<|skM 26 z z z z z<|skM 27 z z z z z<|skM 28 z z z z z<|skM 29 z z z z z<|skM 30 z z z z z<|skM 31 z z z z z<|tqM 32 z z z z<|tmM 33 z z z<|skM 34 z z z z z<|skM 35 z z z z z<|skM 36 z z z z z<|skM 37 z z z z z<|skM 38 z z z z z<|skM 39 z z z z z<|skM 40 z z z z z<|skM 41 z z z z z<|skM 42 z z z z z<|tqM 43 z z z z<|tmM 44 z z z<|skM 45 z z z z z<|skM 46 z z z z z<|skM 47 z z z z z<|skM 48 z z z z z<|skM 49 z z z z z<|skM 50 z z z z z<|skM 51 z z z z z<|skM 52 z z z z z<|skM 53 z z z z z<|tqM 54 z z z z<|tmM 55 z z z<|skM 56 z z z z z<|skM 57 z z z z z<|skM 58 z z z z z<|skM 59 z z z z z<|skM 60 z z z z z<|skM 61 z z z z z<|skM 62 z z z z z<|skM 63 z z z z z<|skM 64 z z z z z<|skM 65 z z z z z<|skM 66 z z z z z<|tqM 67 z z z z<|taM 68 z z z<|dnM<|?_
  obtain rfl:=Aa hr25
  have hC82:=hC65.h0
  exact Am (l':=[(2,(.bool false))]) ⟨z,Aj⟩<|⟨false,z,z,(((Ao hB26).then hB27).then hB28).below,hC82⟩
 rintro _ w32 ⟨x25,rfl,rfl,hB25,hC62⟩
 try dsimp only at hF
 refine AL ?_
 obtain rfl:=Aa hF
 exact A2 z z<|⟨_,z,AN hC62 _⟩
end Go.Gx.Px
