/- The contracts of the Go functions against the pure functions, printed by program. Conditions: each says them. -/
import Derived.Test.YtpjmmbipjddilaaGreatC4
set_option linter.unusedVariables false
set_option linter.unusedSimpArgs false
set_option maxRecDepth 100000
set_option maxHeartbeats 4000000
namespace Go.Gx.Px
open Go.Proofs Go.RowKit
open K9
theorem c_M_NextPage {w0:World} (a1:(List Int)) (u1:Value) (g1:RO [] w0 u1 a1) (a2:(List (Int × (List Int) × Int × Int × Int))) (u2:Value) (g2:RO [] w0 u2 a2) (a3:((List (Int × (List Int))) × Int)) (u3:Value) (g3:RO [] w0 u3 a3.1) (a4:((Int × (List Int)) × Int × Int)) (u4:Value) (g4:RO [] w0 u4 a4.1.2) (a5:Int) (rr:((List (Int × (List Int))) × ((Int × (List Int)) × Int × Int) × Int)) (hF:M.NextPage a1 a2 a3 a4 a5=some rr) :
 Calls Tryz.prog 20 [u1,u2,(.agg #[u3,(I a3.2)]),(.agg #[(I a4.1.1),u4,(I a4.2.1),(I a4.2.2)]),(I a5)].toArray w0 fun e w'=>∃v,e=.returned v∧Res3 w0 rr.1 rr.2.1 rr.2.2 v w':=by
 refine A4 Tryz.func20 z z ?_
 have hC0:=AD w0
 unfold M.NextPage at hF
 refine Ad<|B0 (cs:=[u3,(I a3.2)]) hC0 z z z fun b1 w1 hC1 hB1 hN1=>B0 (cs:=[(I a4.1.1),u4,(I a4.2.1),(I a4.2.2)]) hC1 z z z fun b2 w2 hC2 hB2 hN2=>Ag z z<|AW hC2 zero49 z z fun b3 w3 hC3 hB3 hN3=>Ag z z<|Ab<|Ad<|Ar [(I a4.1.1),u4,(I a4.2.1),(I a4.2.2)] hC3 1 z z z Bg A5 z z<|be hF fun x1 hr1 hF=>A8 Tryz.call56 z z (c_M_copyCursor ((a4.1.1,a4.1.2),a4.2.1,a4.2.2) u4 (g4.now hC3.keep) x1 hr1)<|?_
 rintro v1 w4 ⟨hB4,F1,hv1,hn1,hb1⟩
 have hC4:=hC3.push hB4 (A:=Ae v1 x1) hv1 hn1 hb1
 obtain ⟨v2,rfl,hC5⟩:=st49_own hC4
 refine AW hC5 zero49 z z fun b4 w5 hC6 hB5 hN4=>Al (cs':=[(I x1.1.1),v2,(I x1.2.1),(I x1.2.2)]) (new:=[(I x1.1.1),v2,(I x1.2.1),(I x1.2.2)]) hC6 0 z z (fac z<|fac (AP (hC6.ro 1 z))<|fac z<|fac z<|fa0) z A5 z z fun w6 hC7 hKp1=>?_
 try dsimp only [List.set] at hC7
 have hk1:=Ak (((((Ao hB1).then hB2).then hB3).then hB4).then hB5) (Ai ((((Ao hB1).then hB2).then hB3).then hB4).size hN4) hKp1
 have hk2:=Ak ((((Ao hB2).then hB3).then hB4).then hB5) (Ai (((Ao hB2).then hB3).then hB4).size hN4) hKp1
 have hk3:=Ak (((Ao hB3).then hB4).then hB5) (Ai ((Ao hB3).then hB4).size hN4) hKp1
 have hk4:=Ak ((Ao hB4).then hB5) (Ai (Ao hB4).size hN4) hKp1
 have hk5:=Ak (Ao hB5) hN4 hKp1
 refine Ab<|AC<|Bb<|be hF fun r1 hr2 hF=>BP (fun l w=>∃x2:Bool,x2=r1∧l=[(1,u2),(4,(I a5)),(7,(ptr b1 0)),(8,(ptr b2 0)),(11,(ptr b3 0)),(13,(ptr b4 0)),(20,(.bool x2))]∧Below w6.heap.size w6 w∧Ctx [] w0 w [Ac b4 [(I x1.1.1),v2,(I x1.2.1),(I x1.2.2)],Ae v2 (x1.1.2:(List Int)),Ac b3 [(I 0),(.slice none 0 0),(I 0),(I 0)],Ac b2 [(I a4.1.1),u4,(I a4.2.1),(I a4.2.2)],Ac b1 [u3,(I a3.2)]]) ?_ ?_
 ·refine Bt<|Af z z<|Ar [u3,(I a3.2)] hC7 4 z z z A9 Aw z z<|be hr2 fun x3 hr3 hr2=>cb CQ z z (c_M_IsSource a1 u1 (g1.now hC7.keep) (a3.1,a3.2) u3 (g3.now hC7.keep) x3 hr3) fun w9 hB7=>have hC9:=hC7.grow hB7;B2 z z<|Af z z<|B3 (fun hc1=>?_) (fun hc1=>?_)
  ·replace hr2:=AF hr2 hc1
   refine gs z z z z<|gs z z z z<|gs z z z z<|gs z z z z<|gs z z z z<|gs z z z z<|AX z z z<|Af z z<|gs z z z z<|gs z z z z<|gs z z z z<|AX z z z<|Af z z<|gs z z z z<|gs z z z z<|gs z z z z<|gs z z z z<|AX z z z<|Ag z z<|Ab<|?_
   obtain rfl:=Aa hr2
   exact Ay (l':=[(1,u2),(4,(I a5)),(7,(ptr b1 0)),(8,(ptr b2 0)),(11,(ptr b3 0)),(13,(ptr b4 0)),(20,(.bool true))]) ⟨z,z,z,z,z,z,z,Am⟩<|⟨true,z,z,(Ao hB7).below,hC9⟩
  replace hr2:=AG hr2 hc1
  refine Aj z z<|Af z z<|Aj z z<|Af z z<|Aj z z<|fd AZ Ba z z z z<|Aj z z<|Ar [(I a4.1.1),u4] hC9 3 z z z B8 Ba z z<|be hr2 fun x4 hr4 hr2=>Aj z z<|cb Tryz.call50 z z (c_M_IsAccess a1 u1 (g1.now hC9.keep) a2 u2 (g2.now hC9.keep) (a4.1.1,a4.1.2) u4 (g4.now hC9.keep) x4 hr4) fun w10 hB8=>have hC10:=hC9.grow hB8;Aj z z<|B2 z z<|AH z z z<|Af z z<|B3 (fun hc2=>?_) (fun hc2=>?_)
  ·replace hr2:=AF hr2 hc2
   refine gs z z z z<|gs z z z z<|gs z z z z<|AX z z z<|Af z z<|gs z z z z<|gs z z z z<|gs z z z z<|gs z z z z<|AX z z z<|Ag z z<|Ab<|?_
   obtain rfl:=Aa hr2
   exact Ay (l':=[(1,u2),(4,(I a5)),(7,(ptr b1 0)),(8,(ptr b2 0)),(11,(ptr b3 0)),(13,(ptr b4 0)),(20,(.bool true))]) ⟨z,z,z,z,z,z,z,Am⟩<|⟨true,z,z,((Ao hB7).then hB8).below,hC10⟩
  replace hr2:=AG hr2 hc2
  refine Aj z z<|Af z z<|be hr2 fun x5 hr5 hr2=>Aj z z<|cb Tryz.call57 z z (c_M_isPage a5 x5 hr5) fun w11 hB9=>have hC11:=hC10.grow hB9;Aj z z<|B2 z z<|AH z z z<|Af z z<|B3 (fun hc3=>?_) (fun hc3=>?_)
  ·replace hr2:=AF hr2 hc3
   refine gs z z z z<|gs z z z z<|gs z z z z<|gs z z z z<|AX z z z<|Ag z z<|Ab<|?_
   obtain rfl:=Aa hr2
   exact Ay (l':=[(1,u2),(4,(I a5)),(7,(ptr b1 0)),(8,(ptr b2 0)),(11,(ptr b3 0)),(13,(ptr b4 0)),(20,(.bool true))]) ⟨z,z,z,z,z,z,z,Am⟩<|⟨true,z,z,(((Ao hB7).then hB8).then hB9).below,hC11⟩
  replace hr2:=AG hr2 hc3
  refine Aj z z<|fd AZ Az z z z z<|Aj z z<|At hC11 3 z z AA z z<|be hr2 fun x6 hr6 hr2=>Aj z z<|cb BR z z (c_M_within a4.2.1 0 1000 x6 hr6) fun w12 hB10=>have hC12:=hC11.grow hB10;Aj z z<|B2 z z<|AH z z z<|Ag z z<|Ab<|?_
  obtain rfl:=Aa hr2
  exact Ay (l':=[(1,u2),(4,(I a5)),(7,(ptr b1 0)),(8,(ptr b2 0)),(11,(ptr b3 0)),(13,(ptr b4 0)),(20,(.bool (!x6)))]) ⟨z,z,z,z,z,z,z,Am⟩<|⟨(!x6),z,z,((((Ao hB7).then hB8).then hB9).then hB10).below,hC12⟩
 rintro _ w7 ⟨x2,rfl,rfl,hB6,hC8⟩
 try dsimp only at hF
 refine AN z (fun hc4=>?_) (fun hc4=>?_)
 ·replace hF:=AF hF hc4
  refine AC<|W_drawn 4 z hmix fun w13 hB11=>have hC13:=hC8.grow hB11;ta 1 z z z<|oe 0 z<|Ar [(I x1.1.1),v2,(I x1.2.1),(I x1.2.2)] hC13 0 z z z Bg A5 z z<|Ab<|oe 2 z<|Al (cs':=[(I x1.1.1),v2,(I x1.2.1),(I x1.2.2)]) (new:=[(I x1.1.1),v2,(I x1.2.1),(I x1.2.2)]) hC13 2 z z (fac z<|fac (AP (hC13.ro 1 z))<|fac z<|fac z<|fa0) z A5 z z fun w14 hC14 hKp2=>?_
  try dsimp only [List.set] at hC14
  have hk6:=Ak ((hk1.then hB6).then hB11) (Ai ((Ao hB1).then hB2).size hN3) hKp2
  have hk7:=Ak ((hk2.then hB6).then hB11) (Ai (Ao hB2).size hN3) hKp2
  have hk8:=Ak ((hk3.then hB6).then hB11) hN3 hKp2
  refine Ab<|ta 3 z z z<|dn<|Ax<|AL<|Bz<|A7<|?_
  obtain rfl:=Aa hF
  refine BS z (rv_tmp z) (rv_cell_agg (cs':=[(I x1.1.1),v2,(I x1.2.1),(I x1.2.2)]) hC14 (i:=2) z z z Bg A5 z) (rv_tmp z) ?_
  have hC15:=hC14.triv (Bp (3))
  have hC17:=hC15.f2
  have hC16:=BW x1.1.1 v2 x1.1.2 x1.2.1 x1.2.2 hC17
  have hC18:=hC16.triv (nil_val (α:=(Int × (List Int))))
  exact ⟨_,z,res3_of hC18⟩
 replace hF:=AG hF hc4
 refine Ad<|fd AZ Az z z z z<|At hC8 3 z z AA z z<|fd A1 Az z z z z<|At hC8 4 z z AA z z<|Cp z z z<|Ag z z<|Ab<|AN z (fun hc5=>?_) (fun hc5=>?_)
 ·replace hF:=AF hF hc5
  refine AC<|W_drawn 4 z hmix fun w15 hB12=>have hC19:=hC8.grow hB12;ta 1 z z z<|oe 0 z<|Ar [(I x1.1.1),v2,(I x1.2.1),(I x1.2.2)] hC19 0 z z z Bg A5 z z<|Ab<|oe 2 z<|Al (cs':=[(I x1.1.1),v2,(I x1.2.1),(I x1.2.2)]) (new:=[(I x1.1.1),v2,(I x1.2.1),(I x1.2.2)]) hC19 2 z z (fac z<|fac (AP (hC19.ro 1 z))<|fac z<|fac z<|fa0) z A5 z z fun w16 hC20 hKp3=>?_
  try dsimp only [List.set] at hC20
  have hk9:=Ak ((hk1.then hB6).then hB12) (Ai ((Ao hB1).then hB2).size hN3) hKp3
  have hk10:=Ak ((hk2.then hB6).then hB12) (Ai (Ao hB2).size hN3) hKp3
  have hk11:=Ak ((hk3.then hB6).then hB12) hN3 hKp3
  refine Ab<|ta 3 z z z<|dn<|Ax<|AL<|Bz<|A7<|?_
  obtain rfl:=Aa hF
  refine BS z (rv_tmp z) (rv_cell_agg (cs':=[(I x1.1.1),v2,(I x1.2.1),(I x1.2.2)]) hC20 (i:=2) z z z Bg A5 z) (rv_tmp z) ?_
  have hC21:=hC20.triv (Bp (2))
  have hC23:=hC21.f2
  have hC22:=BW x1.1.1 v2 x1.1.2 x1.2.1 x1.2.2 hC23
  have hC24:=hC22.triv (nil_val (α:=(Int × (List Int))))
  exact ⟨_,z,res3_of hC24⟩
 replace hF:=AG hF hc5
 refine AR<|Bi<|Ax<|Ad<|Af z z<|fd A1 AV z z z z<|At hC8 4 z z Bq z z<|fd AZ Ba z z z z<|Ar [(I a4.1.1),u4] hC8 3 z z z B8 Ba z z<|be hF fun x7 hr7 hF=>A8 Tryz.call58 z z (c_M_matches a2 u2 (g2.now hC8.keep) a3.1 u3 (g3.now hC8.keep) (a4.1.1,a4.1.2) u4 (g4.now hC8.keep) x7 hr7)<|?_
 rintro v3 w17 ⟨hB13,F2,hv6,hn2,hb2⟩
 have hC25:=hC8.push hB13 (A:=Ae v3 x7) hv6 hn2 hb2
 refine Ag z z<|Ab<|Ad<|Af z z<|fd AZ Az z z z z<|At hC25 4 z z AA z z<|Af z z<|be hF fun x8 hr8 hF=>A8 Tryz.call59 z z (c_M_PageAt x7 v3 ((hC25.ro 0 z).now (Be _ _)) a4.2.1 a5 x8 hr8)<|?_
 rintro _ w18 ⟨hB14,v4,v5,v6,F3,F4,F5,rfl,hv7,hv8,hv9,hn3,hb3⟩
 obtain ⟨rfl,rfl⟩:=val_int hv8
 obtain ⟨rfl,rfl⟩:=val_bool hv9
 have hC26:=hC25.pushL hB14 (Bs:=[Ae v4 x8.1]) (Fs:=[F3]) ⟨F3,_,z,hv7,z⟩ (by simpa using hn3) (fun b h=>hb3 b (by simpa using h))
 refine Af z z<|AM z z z<|AM z z z<|AM z z z<|Ag z z<|Ag z z<|Ag z z<|Ab<|AC<|Ad<|Af z z<|B2 z z<|Ab<|AN z (fun hc6=>?_) (fun hc6=>?_)
 ·replace hF:=AF hF hc6
  refine AC<|W_drawn 4 z hmix fun w19 hB15=>have hC27:=hC26.grow hB15;ta 1 z z z<|oe 0 z<|Ar [(I x1.1.1),v2,(I x1.2.1),(I x1.2.2)] hC27 2 z z z Bg A5 z z<|Ab<|oe 2 z<|Al (cs':=[(I x1.1.1),v2,(I x1.2.1),(I x1.2.2)]) (new:=[(I x1.1.1),v2,(I x1.2.1),(I x1.2.2)]) hC27 4 z z (fac z<|fac (AP (hC27.ro 3 z))<|fac z<|fac z<|fa0) z A5 z z fun w20 hC28 hKp4=>?_
  try dsimp only [List.set] at hC28
  have hk12:=Ak ((((hk1.then hB6).then hB13).then hB14).then hB15) (Ai ((Ao hB1).then hB2).size hN3) hKp4
  have hk13:=Ak ((((hk2.then hB6).then hB13).then hB14).then hB15) (Ai (Ao hB2).size hN3) hKp4
  have hk14:=Ak ((((hk3.then hB6).then hB13).then hB14).then hB15) hN3 hKp4
  refine Ab<|ta 3 z z z<|dn<|Ax<|AL<|A7<|?_
  obtain rfl:=Aa hF
  refine BS z (rv_tmp z) (rv_cell_agg (cs':=[(I x1.1.1),v2,(I x1.2.1),(I x1.2.2)]) hC28 (i:=4) z z z Bg A5 z) (rv_tmp z) ?_
  have hC29:=hC28.triv (Bp (3))
  have hC31:=hC29.f4
  have hC30:=BW x1.1.1 v2 x1.1.2 x1.2.1 x1.2.2 hC31
  have hC32:=hC30.triv (nil_val (α:=(Int × (List Int))))
  exact ⟨_,z,res3_of hC32⟩
 replace hF:=AG hF hc6
 refine AR<|Ax<|Ad<|Af z z<|fd AZ Az z z z z<|Br (cs':=[(I x1.1.1),v2,(I x8.2.1),(I x1.2.2)]) hC26 2 z z z z Az z z fun w21 hC33 hKp5=>?_
 try dsimp only [List.set] at hC33
 have hk15:=Ak (((hk1.then hB6).then hB13).then hB14) (Ai ((((Ao hB1).then hB2).then hB3).then hB4).size hN4) hKp5
 have hk16:=Ak (((hk2.then hB6).then hB13).then hB14) (Ai (((Ao hB2).then hB3).then hB4).size hN4) hKp5
 have hk17:=Ak (((hk3.then hB6).then hB13).then hB14) (Ai ((Ao hB3).then hB4).size hN4) hKp5
 have hk18:=Ak (((hk4.then hB6).then hB13).then hB14) (Ai (Ao hB4).size hN4) hKp5
 have hk19:=Ak (((hk5.then hB6).then hB13).then hB14) hN4 hKp5
 refine Ab<|AC<|Ad<|Af z z<|Af z z<|Bo Ah (hC33.ro 1 z) z z<|BO z z z<|Ab<|AN z (fun hc7=>?_) (fun hc7=>?_)
 ·replace hF:=AF hF hc7
  refine AC<|W_drawn 5 z hmix fun w22 hB16=>have hC34:=hC33.grow hB16;tm 0 z z z<|ta 2 z z z<|oe 1 z<|Ar [(I x1.1.1),v2,(I x8.2.1),(I x1.2.2)] hC34 2 z z z Bg A5 z z<|Ab<|oe 3 z<|Al (cs':=[(I x1.1.1),v2,(I x8.2.1),(I x1.2.2)]) (new:=[(I x1.1.1),v2,(I x8.2.1),(I x1.2.2)]) hC34 4 z z (fac z<|fac (AP (hC34.ro 3 z))<|fac z<|fac z<|fa0) z A5 z z fun w23 hC35 hKp6=>?_
  try dsimp only [List.set] at hC35
  have hk20:=Ak (hk15.then hB16) (Ai ((Ao hB1).then hB2).size hN3) hKp6
  have hk21:=Ak (hk16.then hB16) (Ai (Ao hB2).size hN3) hKp6
  have hk22:=Ak (hk17.then hB16) hN3 hKp6
  refine Ab<|ta 4 z z z<|dn<|Ax<|AL<|A7<|?_
  obtain rfl:=Aa hF
  refine BS z (rv_tmp z) (rv_cell_agg (cs':=[(I x1.1.1),v2,(I x8.2.1),(I x1.2.2)]) hC35 (i:=4) z z z Bg A5 z) (rv_tmp z) ?_
  have hC36:=hC35.triv (Bp (1))
  have hC38:=hC36.f4
  have hC37:=BW x1.1.1 v2 x1.1.2 x8.2.1 x1.2.2 hC38
  have hC39:=hC37.f2
  exact ⟨_,z,res3_of hC39⟩
 replace hF:=AG hF hc7
 refine AR<|Ax<|AC<|W_drawn 5 z hmix fun w24 hB17=>have hC40:=hC33.grow hB17;tm 0 z z z<|ta 2 z z z<|oe 1 z<|Ar [(I x1.1.1),v2,(I x8.2.1),(I x1.2.2)] hC40 2 z z z Bg A5 z z<|Ab<|oe 3 z<|Al (cs':=[(I x1.1.1),v2,(I x8.2.1),(I x1.2.2)]) (new:=[(I x1.1.1),v2,(I x8.2.1),(I x1.2.2)]) hC40 4 z z (fac z<|fac (AP (hC40.ro 3 z))<|fac z<|fac z<|fa0) z A5 z z fun w25 hC41 hKp7=>?_
 try dsimp only [List.set] at hC41
 have hk23:=Ak (hk15.then hB17) (Ai ((Ao hB1).then hB2).size hN3) hKp7
 have hk24:=Ak (hk16.then hB17) (Ai (Ao hB2).size hN3) hKp7
 have hk25:=Ak (hk17.then hB17) hN3 hKp7
 refine Ab<|ta 4 z z z<|dn<|Ax<|AL<|?_
 obtain rfl:=Aa hF
 refine BS z (rv_tmp z) (rv_cell_agg (cs':=[(I x1.1.1),v2,(I x8.2.1),(I x1.2.2)]) hC41 (i:=4) z z z Bg A5 z) (rv_tmp z) ?_
 have hC42:=hC41.triv (Bp (0))
 have hC44:=hC42.f4
 have hC43:=BW x1.1.1 v2 x1.1.2 x8.2.1 x1.2.2 hC44
 have hC45:=hC43.f2
 exact ⟨_,z,res3_of hC45⟩
theorem c_S_l25Cursor {w0:World} (a1:((Int × (List Int)) × Int × Int)) (u1:Value) (g1:RO [] w0 u1 a1.1.2) (rr:((Int × (List Int)) × Int × Int)) (hF:S.l25Cursor a1=some rr) :
 Calls Tryz.prog 60 [(.agg #[(I a1.1.1),u1,(I a1.2.1),(I a1.2.2)])].toArray w0 fun e w'=>∃v,e=.returned v∧Res w0 rr v w':=by
 refine A4 Tryz.func60 z z ?_
 have hC0:=AD w0
 unfold S.l25Cursor at hF
 refine Ad<|B0 (cs:=[(I a1.1.1),u1,(I a1.2.1),(I a1.2.2)]) hC0 z z z fun b1 w1 hC1 hB1 hN1=>AW hC1 zero49 z z fun b2 w2 hC2 hB2 hN2=>Ab<|AC<|W_drawn 13 z hmix fun w3 hB3=>have hC3:=hC2.grow hB3;tf 0 AZ Ba z z z z z<|tf 1 AQ Az z z z z z<|tf 3 AZ Ba z z z z z<|tf 4 AQ A2 z z z z z<|tf 7 AZ Az z z z z z<|tf 9 AZ Az z z z z z<|be hF fun x1 hr1 hF=>wAS (l':=[(0,(.agg #[(I a1.1.1),u1,(I a1.2.1),(I a1.2.2)])),(1,(ptr b1 0)),(2,(ptr b2 0)),(3,(ptr b1 0)),(4,(ptr b1 0)),(6,(ptr b1 0)),(7,(ptr b1 1)),(10,(ptr b1 2)),(12,(ptr b1 3))]) ⟨z,z,z,z,z,z,z,z,z,Am⟩<|Bm [⟨2,[],fun vs=>AU (I a1.1.1),[]⟩,⟨5,[],fun vs=>AU u1,[]⟩,⟨6,[],fun vs=>Ct x1,[]⟩,⟨8,[],fun vs=>AU (I a1.2.1),[]⟩,⟨10,[],fun vs=>AU (I a1.2.2),[]⟩] [[],[],[2,5],[],[]] 2 z (by kernel_rfl) (by kernel_rfl) z ?_ ?_
 ·refine An z ?_ ?_
  ·intro w5 hB5
   refine Av<|⟨_,z,?_⟩
   exact At (hC3.grow hB5) 1 z z AA z z<|Ab<|A0 (Aq _ _) z z ⟨z,z⟩
  refine An z ?_ ?_
  ·intro w5 hB5
   refine Av<|⟨_,z,?_⟩
   exact At (hC3.grow hB5) 1 z z AT z z<|Ab<|A0 (Aq _ _) z z ⟨z,z⟩
  refine An z ?_ ?_
  ·intro w5 hB5
   refine A6 z z z ?_
   rintro _ _ ⟨rfl,rfl⟩ _
   refine A6 z z z ?_
   rintro _ _ ⟨rfl,rfl⟩ _
   refine Av<|⟨_,z,?_⟩
   refine A8 Tryz.call53 z z (c_S_l8Access a1.1.1 a1.1.2 u1 (g1.now (hC3.keep.then hB5)) x1 hr1) ?_
   rintro v1 w4 ⟨hB4,F1,hv1,hn1,hb1⟩
   exact Ab<|Cn hB4 z z hv1 hn1 hb1 (Val.inh hv1)
  refine An z ?_ ?_
  ·intro w5 hB5
   refine Av<|⟨_,z,?_⟩
   exact At (hC3.grow hB5) 1 z z AA z z<|Ab<|A0 (Aq _ _) z z ⟨z,z⟩
  refine An z ?_ ?_
  ·intro w5 hB5
   refine Av<|⟨_,z,?_⟩
   exact At (hC3.grow hB5) 1 z z AA z z<|Ab<|A0 (Aq _ _) z z ⟨z,z⟩
  exact Bd
 intro w6 hB6
 refine Au z z z ?_
 rintro _ _ ⟨rfl,rfl⟩
 refine Au z z z ?_
 rintro _ _ ⟨rfl,rfl⟩
 refine Au z z z fun v1 F1 hv1=>Au z z z<|?_
 rintro _ _ ⟨rfl,rfl⟩
 refine Au z z z ?_
 rintro _ _ ⟨rfl,rfl⟩
 refine Bn ?_
 intro hn2 hb2
 have hC4:=hC3.pushL hB6 (Bs:=[Ae v1 (x1:(Int × (List Int)))]) (Fs:=[F1]) ⟨F1,_,z,hv1,z⟩ (by simpa using hn2) (fun b h=>(hb2 b (by simpa using h)).1)
 obtain ⟨v3,rfl,hC5⟩:=st45_own hC4
 refine tk 11 z z (Cm (vs:=[(0,(.agg #[(I x1.1),v3])),(1,(I a1.2.1)),(2,(I a1.2.2))]) z z (built49_0_1_2 z z z))<|BB (vs:=[(0,(.agg #[(I x1.1),v3])),(1,(I a1.2.1)),(2,(I a1.2.2))]) z z z (built49_0_1_2 z z z)<|Ab<|oe 12 z<|Al (cs':=[(I x1.1),v3,(I a1.2.1),(I a1.2.2)]) (new:=[(I x1.1),v3,(I a1.2.1),(I a1.2.2)]) hC5 1 z z (fac z<|fac (AP (hC5.ro 0 z))<|fac z<|fac z<|fa0) z A5 z z fun w7 hC6 hKp1=>?_
 try dsimp only [List.set] at hC6
 have hk1:=Ak ((((Ao hB1).then hB2).then hB3).then hB6) (Ai (Ao hB1).size hN2) hKp1
 have hk2:=Ak (((Ao hB2).then hB3).then hB6) hN2 hKp1
 refine Ab<|dn<|Ax<|AL<|?_
 obtain rfl:=Aa hF
 refine BM z (rv_cell_agg (cs':=[(I x1.1),v3,(I a1.2.1),(I a1.2.2)]) hC6 (i:=1) z z z Bg A5 z) ?_
 have hC7:=BW x1.1 v3 x1.2 a1.2.1 a1.2.2 hC6
 exact ⟨_,z,Cd hC7 0 z⟩
theorem c_S_PageAt {w0:World} (a1:(List (Int × (List Int)))) (u1:Value) (g1:RO [] w0 u1 a1) (a2:Int) (a3:Int) (rr:((List (Int × (List Int))) × Int × Bool)) (hF:S.PageAt a1 a2 a3=some rr) :
 Calls Tryz.prog 61 [u1,(I a2),(I a3)].toArray w0 fun e w'=>∃v,e=.returned v∧Res3 w0 rr.1 rr.2.1 rr.2.2 v w':=by
 refine A4 Tryz.func61 z z ?_
 have hC0:=AD w0
 unfold S.PageAt at hF
 refine Ad<|Ag z z<|Ag z z<|Ag z z<|Ab<|AC<|be hF fun r1 hr1 hF=>BP (fun l w=>∃x1:Bool,x1=r1∧l=[(0,u1),(1,(I a2)),(2,(I a3)),(19,(.bool x1))]∧Below w0.heap.size w0 w∧Ctx [] w0 w []) ?_ ?_
 ·refine Bt<|Af z z<|be hr1 fun x2 hr2 hr1=>cb BI z z (c_S_l1In a3 1 9 x2 hr2) fun w2 hB2=>have hC2:=hC0.grow hB2;B2 z z<|Af z z<|B3 (fun hc1=>?_) (fun hc1=>?_)
  ·replace hr1:=AF hr1 hc1
   refine gs z z z z<|gs z z z z<|gs z z z z<|gs z z z z<|gs z z z z<|AX z z z<|Ab<|?_
   obtain rfl:=Aa hr1
   exact Ay (l':=[(0,u1),(1,(I a2)),(2,(I a3)),(19,(.bool true))]) ⟨z,z,z,z,Am⟩<|⟨true,z,z,(Ao hB2).below,hC2⟩
  replace hr1:=AG hr1 hc1
  refine Aj z z<|Af z z<|Aj z z<|Af z z<|Aj z z<|Bo Ah g1 z z<|be hr1 fun x3 hr3 hr1=>Aj z z<|cb BI z z (c_S_l1In a2 0 (List.length a1:Int) x3 hr3) fun w3 hB3=>have hC3:=hC2.grow hB3;Aj z z<|B2 z z<|AH z z z<|Ab<|?_
  obtain rfl:=Aa hr1
  exact Ay (l':=[(0,u1),(1,(I a2)),(2,(I a3)),(19,(.bool (!x3)))]) ⟨z,z,z,z,Am⟩<|⟨(!x3),z,z,((Ao hB2).then hB3).below,hC3⟩
 rintro _ w1 ⟨x1,rfl,rfl,hB1,hC1⟩
 try dsimp only at hF
 refine AN z (fun hc2=>?_) (fun hc2=>?_)
 ·replace hF:=AF hF hc2
  refine Ad<|AK (vs:=[]) hC1 Ah ty29 z z z z (by simp) z z fun b1 w4 hC4 hB4=>?_
  have hC5:=hC4.row0 (α:=(Int × (List Int)))
  have hC6:=hC5.front 1 z
  dsimp only [List.eraseIdx,List.cons_append,List.nil_append,List.append_nil] at hC6
  have hC7:Ctx [] w0 w4 (Ae (.slice (some ⟨b1,0,none⟩) 0 0) (([]:List (Int × (List Int))):List (Int × (List Int)))::[]):=hC6.rowOwn (by simp [maxLen])
  refine Ag z z<|Ag z z<|Ag z z<|Ab<|AL<|A7<|?_
  obtain rfl:=Aa hF
  refine fn_ret3 z z z z ?_
  have hC8:=hC7.triv (Ci (false))
  have hC9:=hC8.triv (Bp (0))
  have hC10:=hC9.f2
  exact ⟨_,z,res3_of hC10⟩
 replace hF:=AG hF hc2
 refine AR<|Ax<|Ad<|Af z z<|Bo Ah g1 z z<|Af z z<|Af z z<|By z z z<|WL_min z z z<|Ag z z<|Ab<|Ad<|Af z z<|Af z z<|Af z z<|be hF fun x4 hx1 hF=>WL_slice_lh Ah ty29 g1 hx1 z z z z fun v1 h1=>be hF fun x5 hr4 hF=>A8 Tryz.call79 z z (c_S_l2Copy x4 v1 (h1.now hC1.keep) x5 hr4)<|?_
 rintro v2 w5 ⟨hB5,F1,hv3,hn1,hb1⟩
 have hC11:=hC1.push hB5 (A:=Ae v2 x5) hv3 hn1 hb1
 refine Af z z<|Ag z z<|Ag z z<|Ag z z<|Ab<|AL<|?_
 obtain rfl:=Aa hF
 refine fn_ret3 z z z z ?_
 have hC12:=hC11.triv (Ci (true))
 have hC13:=hC12.triv (Bp (if (w64 (a2+a3)) < (List.length a1:Int) then w64 (a2+a3) else (List.length a1:Int)))
 have hC14:=hC13.f2
 exact ⟨_,z,res3_of hC14⟩
theorem c_S_l5Fits {w0:World} (a1:(Int × (List Int) × Int × Int × Int)) (u1:Value) (g1:RO [] w0 u1 a1.2.1) (a2:(List Int)) (u2:Value) (g2:RO [] w0 u2 a2) (a3:(Int × (List Int))) (u3:Value) (g3:RO [] w0 u3 a3.2) (rr:Bool) (hF:S.l5Fits a1 a2 a3=some rr) :
 Calls Tryz.prog 86 [(.agg #[(I a1.1),u1,(I a1.2.2.1),(I a1.2.2.2.1),(I a1.2.2.2.2)]),u2,(.agg #[(I a3.1),u3])].toArray w0 fun e w'=>∃v,e=.returned v∧Res w0 rr v w':=by
 refine A4 Tryz.func86 z z ?_
 have hC0:=AD w0
 unfold S.l5Fits at hF
 refine Ad<|B0 (cs:=[(I a1.1),u1,(I a1.2.2.1),(I a1.2.2.2.1),(I a1.2.2.2.2)]) hC0 z z z fun b1 w1 hC1 hB1 hN1=>B0 (cs:=[(I a3.1),u3]) hC1 z z z fun b2 w2 hC2 hB2 hN2=>Ag z z<|Ab<|AC<|Ad<|fd A3 Az z z z z<|At hC2 0 z z AA z z<|fd AO Az z z z z<|At hC2 1 z z AA z z<|Cp z z z<|Ab<|AN z (fun hc1=>?_) (fun hc1=>?_)
 ·replace hF:=AF hF hc1
  refine Ad<|Ag z z<|Ab<|AL<|A7<|?_
  obtain rfl:=Aa hF
  exact AE z z<|⟨_,z,Bh hC2 _⟩
 replace hF:=AG hF hc1
 refine AR<|Ax<|AC<|Ad<|Ag z z<|Ab<|be hF fun r1 hr1 hF=>Bv (fun l w=>.inl ()=r1∧l=[]∧Below w2.heap.size w2 w∧Ctx [] w0 w []) ?_ ?_
 ·refine Bb<|wS (l':=[(1,u2),(3,(ptr b1 0)),(5,(ptr b2 0)),(7,(I 0))]) ⟨z,z,z,z,Am⟩<|BC (fun k l w=>∃x1:Int,l=[(1,u2),(3,(ptr b1 0)),(5,(ptr b2 0)),(7,(I x1))]∧Below w2.heap.size w2 w∧Ctx [] w0 w [Ac b2 [(I a3.1),u3],Ac b1 [(I a1.1),u1,(I a1.2.2.1),(I a1.2.2.2.1),(I a1.2.2.2.2)]]∧S.l5Fits_l1 a1 a2 a3 k x1=some r1) FUEL ⟨0,z,(Aq _ _),hC2,hr1⟩<|?_
  clear hr1
  rintro k1 _ w3 ⟨x1,rfl,hB3,hC3,hL1⟩
  cases k1 with
  | zero=>rw [S.l5Fits_l1] at hL1; cases hL1
  | succ k1 =>
   rw [S.l5Fits_l1] at hL1
   refine AC<|Ad<|Af z z<|fd AO A2 z z z z<|At hC3 1 z z AT z z<|Bo Ap g1 z z<|B6 z z z<|Ab<|AN z (fun hc2=>?_) (fun hc2=>?_)
   ·replace hL1:=AF hL1 hc2
    refine AR<|Ax<|AC<|Bb<|AC<|W_drawn 14 z hmix fun w4 hB4=>have hC4:=hC3.grow hB4;tf 0 A3 A2 z z z z z<|tf 2 AO A2 z z z z z<|tm 4 z z z<|tm 9 z z z<|tm 10 z z z<|be hL1 fun x2 hx1 hL1=>tk 11 z z (BL Ap ty3 g2 hx1 z z)<|Bc Ap ty3 g2 hx1 z z z fun b3 o1 h1=>Ab<|be hL1 fun x3 hx2 hL1=>be hL1 fun x4 hx3 hL1=>wAS (l':=[(1,u2),(3,(ptr b1 0)),(5,(ptr b2 0)),(7,(I x1)),(13,(I x1)),(14,(ptr b1 1)),(15,u1),(16,(I (List.length a1.2.1:Int))),(17,(.bool (decide (x1 < (List.length a1.2.1:Int))))),(20,(ptr b2 1)),(22,(ptr b1 1)),(24,(I x1)),(29,u2),(30,(I x1)),(31,(ptr b3 o1))]) ⟨z,z,z,z,z,z,z,z,z,z,z,z,z,z,z,Am⟩<|Bm [⟨1,[],fun vs=>AU u3,[]⟩,⟨3,[],fun vs=>AU u1,[]⟩,⟨5,[],fun vs=>Ce [] w0 x3,[]⟩,⟨6,[],fun vs=>AU (I x3),[]⟩,⟨7,[],fun vs=>Ce [] w0 x4,[]⟩,⟨8,[],fun vs=>AU (I x4),[]⟩,⟨12,[],fun vs=>AU (I x2),[]⟩] [[],[],[3],[5],[1,6],[7],[]] 1 z (by kernel_rfl) (by kernel_rfl) z ?_ ?_
    ·refine An z ?_ ?_
     ·intro w5 hB5
      refine Av<|⟨_,z,?_⟩
      exact At (hC4.grow hB5) 0 z z AT z z<|Ab<|A0 (Aq _ _) z z ⟨z,z⟩
     refine An z ?_ ?_
     ·intro w5 hB5
      refine Av<|⟨_,z,?_⟩
      exact At (hC4.grow hB5) 1 z z AT z z<|Ab<|A0 (Aq _ _) z z ⟨z,z⟩
     refine An z ?_ ?_
     ·intro w5 hB5
      refine A6 z z z ?_
      rintro _ _ ⟨rfl,rfl⟩ _
      refine Av<|⟨_,z,?_⟩
      exact Bc Ap ty3 g1 hx2 z z z fun b4 o2 h2=>Ab<|A0 (Aq _ _) z z ⟨z,_,_,z,h2⟩
     refine An z ?_ ?_
     ·intro w5 hB5
      refine A6 z z z ?_
      rintro _ _ ⟨rfl,b4,o2,rfl,h2⟩ _
      refine Av<|⟨_,z,?_⟩
      refine Bf ty3 h2 (hC4.keep.then hB5) z z (fun v1 h3=>?_)
      obtain rfl:=BG h3
      exact Ab<|A0 (Aq _ _) z z ⟨z,z⟩
     refine An z ?_ ?_
     ·intro w5 hB5
      refine A6 z z z ?_
      rintro _ _ ⟨rfl,rfl⟩ _
      refine A6 z z z ?_
      rintro _ _ ⟨rfl,rfl⟩ _
      refine Av<|⟨_,z,?_⟩
      exact Bc Ap ty3 g3 hx3 z z z fun b5 o3 h4=>Ab<|A0 (Aq _ _) z z ⟨z,_,_,z,h4⟩
     refine An z ?_ ?_
     ·intro w5 hB5
      refine A6 z z z ?_
      rintro _ _ ⟨rfl,b5,o3,rfl,h4⟩ _
      refine Av<|⟨_,z,?_⟩
      refine Bf ty3 h4 (hC4.keep.then hB5) z z (fun v2 h5=>?_)
      obtain rfl:=BG h5
      exact Ab<|A0 (Aq _ _) z z ⟨z,z⟩
     refine An z ?_ ?_
     ·intro w5 hB5
      refine Av<|⟨_,z,?_⟩
      refine Bf ty3 h1 (hC4.keep.then hB5) z z (fun v3 h6=>?_)
      obtain rfl:=BG h6
      exact Ab<|A0 (Aq _ _) z z ⟨z,z⟩
     exact Bd
    intro w6 hB6
    refine Au z z z ?_
    rintro _ _ ⟨rfl,rfl⟩
    refine Au z z z ?_
    rintro _ _ ⟨rfl,rfl⟩
    refine Au z z z ?_
    rintro _ _ ⟨rfl,b4,o2,rfl,h2⟩
    refine Au z z z ?_
    rintro _ _ ⟨rfl,rfl⟩
    refine Au z z z ?_
    rintro _ _ ⟨rfl,b5,o3,rfl,h4⟩
    refine Au z z z ?_
    rintro _ _ ⟨rfl,rfl⟩
    refine Au z z z ?_
    rintro _ _ ⟨rfl,rfl⟩
    refine Bn fun hn1 hb1=>have hC5:=hC4.grow hB6;tk 13 z z (CT z z)<|Cp z z z<|Ab<|dn<|Ax<|AN z (fun hc3=>?_) (fun hc3=>?_)
    ·replace hL1:=AF hL1 hc3
     refine Ad<|Ag z z<|Ab<|AL<|Bz<|A7<|A7<|Bz<|A7<|A7<|?_
     obtain rfl:=Aa hL1
     dsimp only at hF
     obtain rfl:=Aa hF
     exact AE z z<|⟨_,z,Bh hC5 _⟩
    replace hL1:=AG hL1 hc3
    exact AR<|Bi<|Ax<|Bt<|Af z z<|By z z z<|Ag z z<|Ab<|Ay (l':=[(1,u2),(3,(ptr b1 0)),(5,(ptr b2 0)),(7,(I (w64 (x1+1))))]) ⟨z,z,z,z,Am⟩<|⟨k1,AS _,w64 (x1+1),z,(((Ao hB3).then hB4).then hB6).below,hC5,hL1⟩
   replace hL1:=AG hL1 hc2
   refine BD (AY (AY (B1 ?_)))
   obtain rfl:=Aa hL1
   have hC6:=hC3.h0
   exact Ay (l':=[]) Am<|⟨z,z,(Ao hB3).below,hC6⟩
 rintro l2 _ w7 hs2 ⟨rfl,rfl,hB7,hC7⟩
 try dsimp only at hF
 refine Bj hs2 ?_
 clear hs2
 refine Ad<|Ag z z<|Ab<|AL<|?_
 obtain rfl:=Aa hF
 exact AE z z<|⟨_,z,Bh hC7 _⟩
theorem c_S_l5Matches {w0:World} (a1:(Int × (List Int) × Int × Int × Int)) (u1:Value) (g1:RO [] w0 u1 a1.2.1) (a2:(List Int)) (u2:Value) (g2:RO [] w0 u2 a2) (a3:(List (Int × (List Int)))) (u3:Value) (g3:RO [] w0 u3 a3) (rr:(List (Int × (List Int)))) (hF:S.l5Matches a1 a2 a3=some rr) :
 Calls Tryz.prog 62 [(.agg #[(I a1.1),u1,(I a1.2.2.1),(I a1.2.2.2.1),(I a1.2.2.2.2)]),u2,u3].toArray w0 fun e w'=>∃v,e=.returned v∧Res w0 rr v w':=by
 refine A4 Tryz.func62 z z ?_
 have hC0:=AD w0
 unfold S.l5Matches at hF
 refine Ad<|B0 (cs:=[(I a1.1),u1,(I a1.2.2.1),(I a1.2.2.2.1),(I a1.2.2.2.2)]) hC0 z z z fun b1 w1 hC1 hB1 hN1=>Ag z z<|Ab<|Ad<|AK (vs:=[]) hC1 Ah ty29 z z z z (by simp) z z fun b2 w2 hC2 hB2=>?_
 have hC3:=hC2.row0 (α:=(Int × (List Int)))
 have hC4:=hC3.front 1 z
 dsimp only [List.eraseIdx,List.cons_append,List.nil_append,List.append_nil] at hC4
 have hC5:Ctx [] w0 w2 (Ae (.slice (some ⟨b2,0,none⟩) 0 0) (([]:List (Int × (List Int))):List (Int × (List Int)))::[Ac b1 [(I a1.1),u1,(I a1.2.2.1),(I a1.2.2.2.1),(I a1.2.2.2.2)]]):=hC4.rowOwn (by simp [maxLen])
 refine Ag z z<|Ab<|AC<|Ad<|Ag z z<|Ab<|be hF fun r1 hr1 hF=>Bv (fun l w=>∃v2:Value,∃x3:(List (Int × (List Int))),x3=r1∧l=[(7,v2)]∧Ctx [] w0 w [Ae v2 (x3:(List (Int × (List Int))))]) ?_ ?_
 ·refine Bb<|wS (l':=[(1,u2),(2,u3),(3,(ptr b1 0)),(7,(.slice (some ⟨b2,0,none⟩) 0 0)),(8,(I 0))]) ⟨z,z,z,z,z,Am⟩<|BC (fun k l w=>∃v1:Value,∃x1:(List (Int × (List Int))),∃x2:Int,l=[(1,u2),(2,u3),(3,(ptr b1 0)),(7,v1),(8,(I x2))]∧Ctx [] w0 w [Ae v1 (x1:(List (Int × (List Int)))),Ac b1 [(I a1.1),u1,(I a1.2.2.1),(I a1.2.2.2.1),(I a1.2.2.2.2)]]∧S.l5Matches_l1 a3 a1 a2 k x1 x2=some r1) FUEL ⟨(.slice (some ⟨b2,0,none⟩) 0 0),([]:List (Int × (List Int))),0,z,hC5,hr1⟩<|?_
  clear hr1
  rintro k1 _ w3 ⟨v1,x1,x2,rfl,hC6,hL1⟩
  cases k1 with
  | zero=>rw [S.l5Matches_l1] at hL1; cases hL1
  | succ k1 =>
   rw [S.l5Matches_l1] at hL1
   refine AC<|Ad<|Af z z<|Af z z<|Bo Ah g3 z z<|B6 z z z<|Ab<|AN z (fun hc1=>?_) (fun hc1=>?_)
   ·replace hL1:=AF hL1 hc1
    refine AR<|Ax<|AC<|Bb<|AC<|W_drawn 7 z hmix fun w4 hB4=>have hC7:=hC6.grow hB4;tm 1 z z z<|tm 2 z z z<|tm 3 z z z<|be hL1 fun x4 hx1 hL1=>tk 4 z z (BL Ah ty29 g3 hx1 z z)<|Bc Ah ty29 g3 hx1 z z z fun b3 o1 h1=>Ab<|wAS (l':=[(1,u2),(2,u3),(3,(ptr b1 0)),(7,v1),(8,(I x2)),(10,(I x2)),(11,u3),(12,(I (List.length a3:Int))),(13,(.bool (decide (x2 < (List.length a3:Int))))),(17,u2),(18,u3),(19,(I x2)),(20,(ptr b3 o1))]) ⟨z,z,z,z,z,z,z,z,z,z,z,z,z,Am⟩<|Bm [⟨0,[],fun vs=>AU (.agg #[(I a1.1),u1,(I a1.2.2.1),(I a1.2.2.2.1),(I a1.2.2.2.2)]),[]⟩,⟨5,[],fun vs=>Cw [] w0 x4,[]⟩] [[],[]] 1 z (by kernel_rfl) (by kernel_rfl) z ?_ ?_
    ·refine An z ?_ ?_
     ·intro w5 hB5
      refine Av<|⟨_,z,?_⟩
      exact Ar [(I a1.1),u1,(I a1.2.2.1),(I a1.2.2.2.1),(I a1.2.2.2.2)] (hC7.grow hB5) 1 z z z Cc BA z z<|Ab<|A0 (Aq _ _) z z ⟨z,z⟩
     refine An z ?_ ?_
     ·intro w5 hB5
      refine Av<|⟨_,z,?_⟩
      exact Bf ty29 h1 (hC7.keep.then hB5) z z fun v5 h4=>Ab<|A0 (Aq _ _) z z ⟨z,h4⟩
     exact Bd
    intro w6 hB6
    refine Au z z z ?_
    rintro _ _ ⟨rfl,rfl⟩
    refine Au z z z ?_
    rintro v5 _ ⟨rfl,h4⟩
    obtain ⟨v4,rfl,h3⟩:=BJ h4
    refine Bn fun hn1 hb1=>have hC8:=hC7.grow hB6;be hL1 fun x5 hr2 hL1=>oe 6 z<|cb Tryz.call86 z z (c_S_l5Fits (a1.1,a1.2.1,a1.2.2.1,a1.2.2.2.1,a1.2.2.2.2) u1 (g1.now hC8.keep) a2 u2 (g2.now hC8.keep) x4 v4 (h3.now hC8.keep) x5 hr2) fun w7 hB7=>have hC9:=hC8.grow hB7;Ab<|dn<|Ax<|be hL1 fun r2 hr3 hL1=>Bv (fun l w=>∃v6:Value,∃x6:(List (Int × (List Int))),x6=r2∧l=[(1,u2),(2,u3),(3,(ptr b1 0)),(7,v6),(8,(I x2))]∧Ctx [] w0 w [Ae v6 (x6:(List (Int × (List Int)))),Ac b1 [(I a1.1),u1,(I a1.2.2.1),(I a1.2.2.2.1),(I a1.2.2.2.2)]]) ?_ ?_
    ·refine AN z (fun hc2=>?_) (fun hc2=>?_)
     ·replace hr3:=AF hr3 hc2
      refine W_drawn 15 z hmix fun w10 hB9=>have hC11:=hC9.grow hB9;tm 0 z z z<|tm 1 z z z<|tm 2 z z z<|be hr3 fun x7 hx2 hr3=>tk 3 z z (BL Ah ty29 g3 hx2 z z)<|Bc Ah ty29 g3 hx2 z z z fun b4 o2 h5=>Ab<|tf 4 A3 Az z z z z z<|tm 6 z z z<|tm 7 z z z<|be hr3 fun x8 hx3 hr3=>tk 8 z z (BL Ah ty29 g3 hx3 z z)<|Bc Ah ty29 g3 hx3 z z z fun b5 o3 h6=>Ab<|tf 9 A3 A2 z z z z z<|wAS (l':=[(1,u2),(2,u3),(3,(ptr b1 0)),(7,v1),(8,(I x2)),(10,(I x2)),(11,u3),(12,(I (List.length a3:Int))),(13,(.bool (decide (x2 < (List.length a3:Int))))),(16,(.agg #[(I a1.1),u1,(I a1.2.2.1),(I a1.2.2.2.1),(I a1.2.2.2.2)])),(17,u2),(18,u3),(19,(I x2)),(20,(ptr b3 o1)),(21,(.agg #[(I x4.1),v4])),(22,(.bool x5)),(23,v1),(24,u3),(25,(I x2)),(26,(ptr b4 o2)),(27,(ptr b4 (o2+0))),(29,u3),(30,(I x2)),(31,(ptr b5 o3)),(32,(ptr b5 (o3+1)))]) ⟨z,z,z,z,z,z,z,z,z,z,z,z,z,z,z,z,z,z,z,z,z,z,z,z,z,Am⟩<|Bm [⟨5,[],fun vs=>AU (I x7.1),[]⟩,⟨10,[],fun vs=>Cw [] w0 x8.2,[]⟩] [[],[]] 4 z (by kernel_rfl) (by kernel_rfl) z ?_ ?_
      ·refine An z ?_ ?_
       ·intro w11 hB10
        refine Av<|⟨_,z,?_⟩
        refine Bf ty3 h5.fst (hC11.keep.then hB10) z z (fun v7 h7=>?_)
        obtain rfl:=BG h7
        exact Ab<|A0 (Aq _ _) z z ⟨z,z⟩
       refine An z ?_ ?_
       ·intro w11 hB10
        refine Av<|⟨_,z,?_⟩
        exact Bf ty24 h6.snd (hC11.keep.then hB10) z z fun v8 h8=>Ab<|A0 (Aq _ _) z z ⟨z,h8⟩
       exact Bd
      intro w12 hB11
      refine Au z z z ?_
      rintro _ _ ⟨rfl,rfl⟩
      refine Au z z z ?_
      rintro v8 _ ⟨rfl,h8⟩
      refine Bn fun hn2 hb2=>have hC12:=hC11.grow hB11;be hr3 fun x9 hr4 hr3=>oe 11 z<|A8 C1 z z (c_S_l2One x7.1 x8.2 v8 (h8.now hC12.keep) x9 hr4)<|?_
      rintro v9 w13 ⟨hB12,F1,hv2,hn3,hb3⟩
      have hC13:=hC12.push hB12 (A:=Ae v9 x9) hv2 hn3 hb3
      obtain ⟨v10,rfl,hC14⟩:=st29_own hC13
      refine Ab<|oe 12 z<|AK (vs:=[(.agg #[(I x9.1),v10])]) hC14 Ah ty29 z z z z (fac z<|fa0) z z fun b6 w14 hC15 hB13=>?_
      have hC16:=hC15.row0 (α:=(Int × (List Int)))
      have hC18:=hC16.f2
      have hC17:=Cf x9.1 v10 x9.2 hC18
      have hC19:=hC17.row1
      have hC20:=hC19.front 1 z
      dsimp only [List.eraseIdx,List.cons_append,List.nil_append,List.append_nil] at hC20
      have hC21:Ctx [] w0 w14 (Ae (.slice (some ⟨b6,0,none⟩) 1 1) ([(x9.1,x9.2)]:List (Int × (List Int)))::[Ae v1 (x1:(List (Int × (List Int)))),Ac b1 [(I a1.1),u1,(I a1.2.2.1),(I a1.2.2.2.1),(I a1.2.2.2.2)]]):=hC20.rowOwn (by simp [maxLen])
      refine Ab<|be hr3 fun x10 hx4 hr3=>oe 13 z<|BH hC21 0 z Ah ty29 z hx4 z z z fun v11 w15 hC22=>?_
      try dsimp only [List.set] at hC22
      refine Ab<|ta 14 z z z<|dn<|?_
      obtain rfl:=Aa hr3
      exact Ay (l':=[(1,u2),(2,u3),(3,(ptr b1 0)),(7,v11),(8,(I x2))]) ⟨z,z,z,z,z,Am⟩<|⟨v11,x10,z,z,hC22⟩
     replace hr3:=AG hr3 hc2
     refine AR ?_
     obtain rfl:=Aa hr3
     exact Ay (l':=[(1,u2),(2,u3),(3,(ptr b1 0)),(7,v1),(8,(I x2))]) ⟨z,z,z,z,z,Am⟩<|⟨v1,x1,z,z,hC9⟩
    rintro l2 _ w9 hs2 ⟨v6,x6,rfl,rfl,hC10⟩
    try dsimp only at hL1
    refine Bi<|Bj hs2<|?_
    clear hs2
    exact Bt<|Af z z<|By z z z<|Ag z z<|Ab<|Ay (l':=[(1,u2),(2,u3),(3,(ptr b1 0)),(7,v6),(8,(I (w64 (x2+1))))]) ⟨z,z,z,z,z,Am⟩<|⟨k1,AS _,v6,x6,w64 (x2+1),z,hC10,hL1⟩
   replace hL1:=AG hL1 hc1
   refine BD (AY (AY (B1 ?_)))
   obtain rfl:=Aa hL1
   have hC24:=hC6.h1
   exact Ay (l':=[(7,v1)]) ⟨z,Am⟩<|⟨v1,x1,z,z,hC24⟩
 rintro l3 _ w16 hs3 ⟨v2,x3,rfl,rfl,hC25⟩
 try dsimp only at hF
 refine Bj hs3 ?_
 clear hs3
 refine Ad<|Af z z<|Ag z z<|Ab<|AL<|?_
 obtain rfl:=Aa hF
 exact AE z z<|⟨_,z,Cd hC25 0 z⟩
theorem c_S_NextPage {w0:World} (a1:(List Int)) (u1:Value) (g1:RO [] w0 u1 a1) (a2:(List (Int × (List Int) × Int × Int × Int))) (u2:Value) (g2:RO [] w0 u2 a2) (a3:((List (Int × (List Int))) × Int)) (u3:Value) (g3:RO [] w0 u3 a3.1) (a4:((Int × (List Int)) × Int × Int)) (u4:Value) (g4:RO [] w0 u4 a4.1.2) (a5:Int) (rr:((List (Int × (List Int))) × ((Int × (List Int)) × Int × Int) × Int)) (hF:S.NextPage a1 a2 a3 a4 a5=some rr) :
 Calls Tryz.prog 21 [u1,u2,(.agg #[u3,(I a3.2)]),(.agg #[(I a4.1.1),u4,(I a4.2.1),(I a4.2.2)]),(I a5)].toArray w0 fun e w'=>∃v,e=.returned v∧Res3 w0 rr.1 rr.2.1 rr.2.2 v w':=by
 refine A4 Tryz.func21 z z ?_
 have hC0:=AD w0
 unfold S.NextPage at hF
 refine Ad<|B0 (cs:=[u3,(I a3.2)]) hC0 z z z fun b1 w1 hC1 hB1 hN1=>B0 (cs:=[(I a4.1.1),u4,(I a4.2.1),(I a4.2.2)]) hC1 z z z fun b2 w2 hC2 hB2 hN2=>Ag z z<|AW hC2 zero49 z z fun b3 w3 hC3 hB3 hN3=>Ag z z<|Ab<|Ad<|Ar [(I a4.1.1),u4,(I a4.2.1),(I a4.2.2)] hC3 1 z z z Bg A5 z z<|be hF fun x1 hr1 hF=>A8 Tryz.call60 z z (c_S_l25Cursor ((a4.1.1,a4.1.2),a4.2.1,a4.2.2) u4 (g4.now hC3.keep) x1 hr1)<|?_
 rintro v1 w4 ⟨hB4,F1,hv1,hn1,hb1⟩
 have hC4:=hC3.push hB4 (A:=Ae v1 x1) hv1 hn1 hb1
 obtain ⟨v2,rfl,hC5⟩:=st49_own hC4
 refine AW hC5 zero49 z z fun b4 w5 hC6 hB5 hN4=>Al (cs':=[(I x1.1.1),v2,(I x1.2.1),(I x1.2.2)]) (new:=[(I x1.1.1),v2,(I x1.2.1),(I x1.2.2)]) hC6 0 z z (fac z<|fac (AP (hC6.ro 1 z))<|fac z<|fac z<|fa0) z A5 z z fun w6 hC7 hKp1=>?_
 try dsimp only [List.set] at hC7
 have hk1:=Ak (((((Ao hB1).then hB2).then hB3).then hB4).then hB5) (Ai ((((Ao hB1).then hB2).then hB3).then hB4).size hN4) hKp1
 have hk2:=Ak ((((Ao hB2).then hB3).then hB4).then hB5) (Ai (((Ao hB2).then hB3).then hB4).size hN4) hKp1
 have hk3:=Ak (((Ao hB3).then hB4).then hB5) (Ai ((Ao hB3).then hB4).size hN4) hKp1
 have hk4:=Ak ((Ao hB4).then hB5) (Ai (Ao hB4).size hN4) hKp1
 have hk5:=Ak (Ao hB5) hN4 hKp1
 refine Ab<|AC<|be hF fun r1 hr2 hF=>BP (fun l w=>∃x2:Bool,x2=r1∧l=[(1,u2),(4,(I a5)),(7,(ptr b1 0)),(8,(ptr b2 0)),(11,(ptr b3 0)),(13,(ptr b4 0)),(41,(.bool x2))]∧Below w6.heap.size w6 w∧Ctx [] w0 w [Ac b4 [(I x1.1.1),v2,(I x1.2.1),(I x1.2.2)],Ae v2 (x1.1.2:(List Int)),Ac b3 [(I 0),(.slice none 0 0),(I 0),(I 0)],Ac b2 [(I a4.1.1),u4,(I a4.2.1),(I a4.2.2)],Ac b1 [u3,(I a3.2)]]) ?_ ?_
 ·refine Bt<|Af z z<|Ar [u3,(I a3.2)] hC7 4 z z z A9 Aw z z<|be hr2 fun x3 hr3 hr2=>cb CR z z (c_S_IsSource a1 u1 (g1.now hC7.keep) (a3.1,a3.2) u3 (g3.now hC7.keep) x3 hr3) fun w9 hB7=>have hC9:=hC7.grow hB7;B2 z z<|Af z z<|B3 (fun hc1=>?_) (fun hc1=>?_)
  ·replace hr2:=AF hr2 hc1
   refine gs z z z z<|gs z z z z<|gs z z z z<|gs z z z z<|gs z z z z<|gs z z z z<|AX z z z<|Af z z<|gs z z z z<|gs z z z z<|gs z z z z<|AX z z z<|Af z z<|gs z z z z<|gs z z z z<|gs z z z z<|gs z z z z<|AX z z z<|Ab<|?_
   obtain rfl:=Aa hr2
   exact Ay (l':=[(1,u2),(4,(I a5)),(7,(ptr b1 0)),(8,(ptr b2 0)),(11,(ptr b3 0)),(13,(ptr b4 0)),(41,(.bool true))]) ⟨z,z,z,z,z,z,z,Am⟩<|⟨true,z,z,(Ao hB7).below,hC9⟩
  replace hr2:=AG hr2 hc1
  refine Aj z z<|Af z z<|Aj z z<|Af z z<|Aj z z<|fd AZ Ba z z z z<|Aj z z<|Ar [(I a4.1.1),u4] hC9 3 z z z B8 Ba z z<|be hr2 fun x4 hr4 hr2=>Aj z z<|cb Tryz.call52 z z (c_S_IsAccess a1 u1 (g1.now hC9.keep) a2 u2 (g2.now hC9.keep) (a4.1.1,a4.1.2) u4 (g4.now hC9.keep) x4 hr4) fun w10 hB8=>have hC10:=hC9.grow hB8;Aj z z<|B2 z z<|AH z z z<|Af z z<|B3 (fun hc2=>?_) (fun hc2=>?_)
  ·replace hr2:=AF hr2 hc2
   refine gs z z z z<|gs z z z z<|gs z z z z<|AX z z z<|Af z z<|gs z z z z<|gs z z z z<|gs z z z z<|gs z z z z<|AX z z z<|Ab<|?_
   obtain rfl:=Aa hr2
   exact Ay (l':=[(1,u2),(4,(I a5)),(7,(ptr b1 0)),(8,(ptr b2 0)),(11,(ptr b3 0)),(13,(ptr b4 0)),(41,(.bool true))]) ⟨z,z,z,z,z,z,z,Am⟩<|⟨true,z,z,((Ao hB7).then hB8).below,hC10⟩
  replace hr2:=AG hr2 hc2
  refine Aj z z<|Af z z<|be hr2 fun x5 hr5 hr2=>Aj z z<|cb BI z z (c_S_l1In a5 1 9 x5 hr5) fun w11 hB9=>have hC11:=hC10.grow hB9;Aj z z<|B2 z z<|AH z z z<|Af z z<|B3 (fun hc3=>?_) (fun hc3=>?_)
  ·replace hr2:=AF hr2 hc3
   refine gs z z z z<|gs z z z z<|gs z z z z<|gs z z z z<|AX z z z<|Ab<|?_
   obtain rfl:=Aa hr2
   exact Ay (l':=[(1,u2),(4,(I a5)),(7,(ptr b1 0)),(8,(ptr b2 0)),(11,(ptr b3 0)),(13,(ptr b4 0)),(41,(.bool true))]) ⟨z,z,z,z,z,z,z,Am⟩<|⟨true,z,z,(((Ao hB7).then hB8).then hB9).below,hC11⟩
  replace hr2:=AG hr2 hc3
  refine Aj z z<|fd AZ Az z z z z<|Aj z z<|At hC11 3 z z AA z z<|be hr2 fun x6 hr6 hr2=>Aj z z<|cb BI z z (c_S_l1In a4.2.1 0 1000 x6 hr6) fun w12 hB10=>have hC12:=hC11.grow hB10;Aj z z<|B2 z z<|AH z z z<|Ab<|?_
  obtain rfl:=Aa hr2
  exact Ay (l':=[(1,u2),(4,(I a5)),(7,(ptr b1 0)),(8,(ptr b2 0)),(11,(ptr b3 0)),(13,(ptr b4 0)),(41,(.bool (!x6)))]) ⟨z,z,z,z,z,z,z,Am⟩<|⟨(!x6),z,z,((((Ao hB7).then hB8).then hB9).then hB10).below,hC12⟩
 rintro _ w7 ⟨x2,rfl,rfl,hB6,hC8⟩
 try dsimp only at hF
 refine AN z (fun hc4=>?_) (fun hc4=>?_)
 ·replace hF:=AF hF hc4
  refine AC<|W_drawn 5 z hmix fun w13 hB11=>have hC13:=hC8.grow hB11;wAS (l':=[(1,u2),(4,(I a5)),(7,(ptr b1 0)),(8,(ptr b2 0)),(11,(ptr b3 0)),(13,(ptr b4 0)),(41,(.bool x2))]) ⟨z,z,z,z,z,z,z,Am⟩<|Bm [⟨0,[],fun vs=>Ct (([]:List (Int × (List Int))):(List (Int × (List Int)))),[]⟩,⟨1,[],fun vs=>AU (.agg #[(I x1.1.1),v2,(I x1.2.1),(I x1.2.2)]),[]⟩,⟨2,[42],fun vs=>AU (vs.getD 0 undef),[]⟩] [[],[],[0]] 2 z (by kernel_rfl) (by kernel_rfl) z ?_ ?_
  ·refine An z ?_ ?_
   ·intro w15 hB13
    refine Av<|⟨_,z,?_⟩
    refine AK (vs:=[]) (AD w15) Ah ty29 z z z z (by simp) z z (fun b5 w14 hC14 hB12=>?_)
    have hC15:=hC14.row0 (α:=(Int × (List Int)))
    have hC16:=hC15.front 1 z
    dsimp only [List.eraseIdx,List.cons_append,List.nil_append,List.append_nil] at hC16
    have hC17:Ctx [] w15 w14 (Ae (.slice (some ⟨b5,0,none⟩) 0 0) (([]:List (Int × (List Int))):List (Int × (List Int)))::[]):=hC16.rowOwn (by simp [maxLen])
    exact Ab<|C2 hC17 z z (fun F h=>h)
   refine An z ?_ ?_
   ·intro w15 hB13
    refine Av<|⟨_,z,?_⟩
    exact Ar [(I x1.1.1),v2,(I x1.2.1),(I x1.2.2)] (hC13.grow hB13) 0 z z z Bg A5 z z<|Ab<|A0 (Aq _ _) z z ⟨z,z⟩
   refine An z ?_ ?_
   ·intro w15 hB13
    refine A6 z z z fun v3 F2 hv6 _=>Av<|⟨_,z,?_⟩
    exact Ag z z<|Ab<|A0 (Aq _ _) z z ⟨z,z⟩
   exact Bd
  intro w16 hB14
  refine Au z z z fun v3 F2 hv6=>Au z z z<|?_
  rintro _ _ ⟨rfl,rfl⟩
  refine Au z z z ?_
  rintro _ _ ⟨rfl,rfl⟩
  refine Bn ?_
  intro hn2 hb2
  have hC18:=hC13.pushL hB14 (Bs:=[Ae v3 (([]:List (Int × (List Int))):(List (Int × (List Int))))]) (Fs:=[F2]) ⟨F2,_,z,hv6,z⟩ (by simpa using hn2) (fun b h=>(hb2 b (by simpa using h)).1)
  refine oe 3 z<|Al (cs':=[(I x1.1.1),v2,(I x1.2.1),(I x1.2.2)]) (new:=[(I x1.1.1),v2,(I x1.2.1),(I x1.2.2)]) hC18 3 z z (fac z<|fac (AP (hC18.ro 2 z))<|fac z<|fac z<|fa0) z A5 z z fun w17 hC19 hKp2=>?_
  try dsimp only [List.set] at hC19
  have hk6:=Ak (((hk1.then hB6).then hB11).then hB14) (Ai ((Ao hB1).then hB2).size hN3) hKp2
  have hk7:=Ak (((hk2.then hB6).then hB11).then hB14) (Ai (Ao hB2).size hN3) hKp2
  have hk8:=Ak (((hk3.then hB6).then hB11).then hB14) hN3 hKp2
  refine Ab<|ta 4 z z z<|dn<|Ax<|AL<|A7<|?_
  obtain rfl:=Aa hF
  refine BS z (rv_tmp z) (rv_cell_agg (cs':=[(I x1.1.1),v2,(I x1.2.1),(I x1.2.2)]) hC19 (i:=3) z z z Bg A5 z) (rv_tmp z) ?_
  have hC20:=hC19.triv (Bp (3))
  have hC22:=hC20.f3
  have hC21:=BW x1.1.1 v2 x1.1.2 x1.2.1 x1.2.2 hC22
  have hC23:=hC21.f2
  exact ⟨_,z,res3_of hC23⟩
 replace hF:=AG hF hc4
 refine AR<|Ax<|AC<|Ad<|fd AZ Az z z z z<|At hC8 3 z z AA z z<|fd A1 Az z z z z<|At hC8 4 z z AA z z<|Cp z z z<|Ab<|AN z (fun hc5=>?_) (fun hc5=>?_)
 ·replace hF:=AF hF hc5
  refine AC<|W_drawn 5 z hmix fun w18 hB15=>have hC24:=hC8.grow hB15;wAS (l':=[(1,u2),(4,(I a5)),(7,(ptr b1 0)),(8,(ptr b2 0)),(11,(ptr b3 0)),(13,(ptr b4 0)),(41,(.bool x2)),(44,(ptr b2 3)),(45,(I a4.2.2)),(46,(ptr b1 1)),(47,(I a3.2)),(48,(.bool (!decide (a4.2.2=a3.2))))]) ⟨z,z,z,z,z,z,z,z,z,z,z,z,Am⟩<|Bm [⟨0,[],fun vs=>Ct (([]:List (Int × (List Int))):(List (Int × (List Int)))),[]⟩,⟨1,[],fun vs=>AU (.agg #[(I x1.1.1),v2,(I x1.2.1),(I x1.2.2)]),[]⟩,⟨2,[49],fun vs=>AU (vs.getD 0 undef),[]⟩] [[],[],[0]] 2 z (by kernel_rfl) (by kernel_rfl) z ?_ ?_
  ·refine An z ?_ ?_
   ·intro w20 hB17
    refine Av<|⟨_,z,?_⟩
    refine AK (vs:=[]) (AD w20) Ah ty29 z z z z (by simp) z z (fun b6 w19 hC25 hB16=>?_)
    have hC26:=hC25.row0 (α:=(Int × (List Int)))
    have hC27:=hC26.front 1 z
    dsimp only [List.eraseIdx,List.cons_append,List.nil_append,List.append_nil] at hC27
    have hC28:Ctx [] w20 w19 (Ae (.slice (some ⟨b6,0,none⟩) 0 0) (([]:List (Int × (List Int))):List (Int × (List Int)))::[]):=hC27.rowOwn (by simp [maxLen])
    exact Ab<|C2 hC28 z z (fun F h=>h)
   refine An z ?_ ?_
   ·intro w20 hB17
    refine Av<|⟨_,z,?_⟩
    exact Ar [(I x1.1.1),v2,(I x1.2.1),(I x1.2.2)] (hC24.grow hB17) 0 z z z Bg A5 z z<|Ab<|A0 (Aq _ _) z z ⟨z,z⟩
   refine An z ?_ ?_
   ·intro w20 hB17
    refine A6 z z z fun v4 F3 hv7 _=>Av<|⟨_,z,?_⟩
    exact Ag z z<|Ab<|A0 (Aq _ _) z z ⟨z,z⟩
   exact Bd
  intro w21 hB18
  refine Au z z z fun v4 F3 hv7=>Au z z z<|?_
  rintro _ _ ⟨rfl,rfl⟩
  refine Au z z z ?_
  rintro _ _ ⟨rfl,rfl⟩
  refine Bn ?_
  intro hn3 hb3
  have hC29:=hC24.pushL hB18 (Bs:=[Ae v4 (([]:List (Int × (List Int))):(List (Int × (List Int))))]) (Fs:=[F3]) ⟨F3,_,z,hv7,z⟩ (by simpa using hn3) (fun b h=>(hb3 b (by simpa using h)).1)
  refine oe 3 z<|Al (cs':=[(I x1.1.1),v2,(I x1.2.1),(I x1.2.2)]) (new:=[(I x1.1.1),v2,(I x1.2.1),(I x1.2.2)]) hC29 3 z z (fac z<|fac (AP (hC29.ro 2 z))<|fac z<|fac z<|fa0) z A5 z z fun w22 hC30 hKp3=>?_
  try dsimp only [List.set] at hC30
  have hk9:=Ak (((hk1.then hB6).then hB15).then hB18) (Ai ((Ao hB1).then hB2).size hN3) hKp3
  have hk10:=Ak (((hk2.then hB6).then hB15).then hB18) (Ai (Ao hB2).size hN3) hKp3
  have hk11:=Ak (((hk3.then hB6).then hB15).then hB18) hN3 hKp3
  refine Ab<|ta 4 z z z<|dn<|Ax<|AL<|A7<|?_
  obtain rfl:=Aa hF
  refine BS z (rv_tmp z) (rv_cell_agg (cs':=[(I x1.1.1),v2,(I x1.2.1),(I x1.2.2)]) hC30 (i:=3) z z z Bg A5 z) (rv_tmp z) ?_
  have hC31:=hC30.triv (Bp (2))
  have hC33:=hC31.f3
  have hC32:=BW x1.1.1 v2 x1.1.2 x1.2.1 x1.2.2 hC33
  have hC34:=hC32.f2
  exact ⟨_,z,res3_of hC34⟩
 replace hF:=AG hF hc5
 refine AR<|Ax<|AC<|W_drawn 23 z hmix fun w23 hB19=>have hC35:=hC8.grow hB19;tm 0 z z z<|tf 1 AZ Ba z z z z z<|tf 2 AQ Az z z z z z<|tf 6 AZ Ba z z z z z<|tf 7 AQ A2 z z z z z<|tf 9 A1 AV z z z z z<|tf 12 AZ Az z z z z z<|tm 14 z z z<|be hF fun x7 hx1 hF=>be hF fun x8 hr7 hF=>wAS (l':=[(1,u2),(4,(I a5)),(7,(ptr b1 0)),(8,(ptr b2 0)),(11,(ptr b3 0)),(13,(ptr b4 0)),(41,(.bool x2)),(44,(ptr b2 3)),(45,(I a4.2.2)),(46,(ptr b1 1)),(47,(I a3.2)),(48,(.bool (!decide (a4.2.2=a3.2)))),(52,u2),(53,(ptr b2 0)),(54,(ptr b2 0)),(58,(ptr b2 0)),(59,(ptr b2 1)),(61,(ptr b1 0)),(64,(ptr b2 2)),(66,(I a5))]) ⟨z,z,z,z,z,z,z,z,z,z,z,z,z,z,z,z,z,z,z,z,Am⟩<|Bm [⟨3,[],fun vs=>AU (I a4.1.1),[]⟩,⟨4,[],fun vs=>Ce [] w0 x7,[]⟩,⟨5,[],fun vs=>Cw [] w0 x7,[]⟩,⟨8,[],fun vs=>AU u4,[]⟩,⟨10,[],fun vs=>AU u3,[]⟩,⟨11,[],fun vs=>Ct x8,[]⟩,⟨13,[],fun vs=>AU (I a4.2.1),[]⟩] [[],[3],[4],[],[],[5,8,10],[]] 8 z (by kernel_rfl) (by kernel_rfl) z ?_ ?_
 ·refine An z ?_ ?_
  ·intro w25 hB21
   refine Av<|⟨_,z,?_⟩
   exact At (hC35.grow hB21) 3 z z AA z z<|Ab<|A0 (Aq _ _) z z ⟨z,z⟩
  refine An z ?_ ?_
  ·intro w25 hB21
   refine A6 z z z ?_
   rintro _ _ ⟨rfl,rfl⟩ _
   refine Av<|⟨_,z,?_⟩
   exact Bc Bl ty93 g2 hx1 z z z fun b7 o1 h1=>Ab<|A0 (Aq _ _) z z ⟨z,_,_,z,h1⟩
  refine An z ?_ ?_
  ·intro w25 hB21
   refine A6 z z z ?_
   rintro _ _ ⟨rfl,b7,o1,rfl,h1⟩ _
   refine Av<|⟨_,z,?_⟩
   exact Bf ty93 h1 (hC35.keep.then hB21) z z fun v7 h4=>Ab<|A0 (Aq _ _) z z ⟨z,h4⟩
  refine An z ?_ ?_
  ·intro w25 hB21
   refine Av<|⟨_,z,?_⟩
   exact At (hC35.grow hB21) 3 z z AT z z<|Ab<|A0 (Aq _ _) z z ⟨z,z⟩
  refine An z ?_ ?_
  ·intro w25 hB21
   refine Av<|⟨_,z,?_⟩
   exact At (hC35.grow hB21) 4 z z Bq z z<|Ab<|A0 (Aq _ _) z z ⟨z,z⟩
  refine An z ?_ ?_
  ·intro w25 hB21
   refine A6 z z z ?_
   rintro v7 _ ⟨rfl,h4⟩ _
   obtain ⟨v6,rfl,h3⟩:=CX h4
   refine A6 z z z ?_
   rintro _ _ ⟨rfl,rfl⟩ _
   refine A6 z z z ?_
   rintro _ _ ⟨rfl,rfl⟩ _
   refine Av<|⟨_,z,?_⟩
   refine A8 Tryz.call62 z z (c_S_l5Matches x7 v6 (h3.now (hC35.keep.then hB21)) a4.1.2 u4 (g4.now (hC35.keep.then hB21)) a3.1 u3 (g3.now (hC35.keep.then hB21)) x8 hr7) ?_
   rintro v8 w24 ⟨hB20,F4,hv8,hn4,hb4⟩
   exact Ab<|Cn hB20 z z hv8 hn4 hb4 (Val.inh hv8)
  refine An z ?_ ?_
  ·intro w25 hB21
   refine Av<|⟨_,z,?_⟩
   exact At (hC35.grow hB21) 3 z z AA z z<|Ab<|A0 (Aq _ _) z z ⟨z,z⟩
  exact Bd
 intro w26 hB22
 refine Au z z z ?_
 rintro _ _ ⟨rfl,rfl⟩
 refine Au z z z ?_
 rintro _ _ ⟨rfl,b7,o1,rfl,h1⟩
 refine Au z z z ?_
 rintro v7 _ ⟨rfl,h4⟩
 obtain ⟨v6,rfl,h3⟩:=CX h4
 refine Au z z z ?_
 rintro _ _ ⟨rfl,rfl⟩
 refine Au z z z ?_
 rintro _ _ ⟨rfl,rfl⟩
 refine Au z z z fun v8 F4 hv8=>Au z z z<|?_
 rintro _ _ ⟨rfl,rfl⟩
 refine Bn ?_
 intro hn5 hb5
 have hC36:=hC35.pushL hB22 (Bs:=[Ae v8 (x8:(List (Int × (List Int))))]) (Fs:=[F4]) ⟨F4,_,z,hv8,z⟩ (by simpa using hn5) (fun b h=>(hb5 b (by simpa using h)).1)
 refine be hF fun x9 hr8 hF=>oe 15 z<|A8 Tryz.call61 z z (c_S_PageAt x8 v8 ((hC36.ro 0 z).now (Be _ _)) a4.2.1 a5 x9 hr8)<|?_
 rintro _ w27 ⟨hB23,v9,v10,v11,F5,F6,F7,rfl,hv9,hv10,hv11,hn6,hb6⟩
 obtain ⟨rfl,rfl⟩:=val_int hv10
 obtain ⟨rfl,rfl⟩:=val_bool hv11
 have hC37:=hC36.pushL hB23 (Bs:=[Ae v9 x9.1]) (Fs:=[F5]) ⟨F5,_,z,hv9,z⟩ (by simpa using hn6) (fun b h=>hb6 b (by simpa using h))
 refine Ab<|tm 16 z z z<|tk 17 z z (BX z z)<|AM z z z<|Ab<|tk 18 z z (BX z z)<|AM z z z<|Ab<|tk 19 z z (BX z z)<|AM z z z<|Ab<|ta 20 z z z<|ta 21 z z z<|ta 22 z z z<|dn<|Ax<|AC<|Ad<|Af z z<|B2 z z<|Ab<|AN z (fun hc6=>?_) (fun hc6=>?_)
 ·replace hF:=AF hF hc6
  refine AC<|W_drawn 5 z hmix fun w28 hB24=>have hC38:=hC37.grow hB24;wAS (l':=[(1,u2),(4,(I a5)),(7,(ptr b1 0)),(8,(ptr b2 0)),(11,(ptr b3 0)),(13,(ptr b4 0)),(14,v9),(15,(I x9.2.1)),(16,(.bool x9.2.2)),(41,(.bool x2)),(44,(ptr b2 3)),(45,(I a4.2.2)),(46,(ptr b1 1)),(47,(I a3.2)),(48,(.bool (!decide (a4.2.2=a3.2)))),(51,(.tuple #[v9,(I x9.2.1),(.bool x9.2.2)])),(52,u2),(53,(ptr b2 0)),(54,(ptr b2 0)),(55,(I a4.1.1)),(56,(ptr b7 o1)),(57,(.agg #[(I x7.1),v6,(I x7.2.2.1),(I x7.2.2.2.1),(I x7.2.2.2.2)])),(58,(ptr b2 0)),(59,(ptr b2 1)),(60,u4),(61,(ptr b1 0)),(62,u3),(63,v8),(64,(ptr b2 2)),(65,(I a4.2.1)),(66,(I a5)),(67,(.tuple #[v9,(I x9.2.1),(.bool x9.2.2)])),(68,v9),(69,(I x9.2.1)),(70,(.bool x9.2.2)),(71,(.bool x9.2.2)),(72,(.bool (!x9.2.2)))]) ⟨z,z,z,z,z,z,z,z,z,z,z,z,z,z,z,z,z,z,z,z,z,z,z,z,z,z,z,z,z,z,z,z,z,z,z,z,z,Am⟩<|Bm [⟨0,[],fun vs=>Ct (([]:List (Int × (List Int))):(List (Int × (List Int)))),[]⟩,⟨1,[],fun vs=>AU (.agg #[(I x1.1.1),v2,(I x1.2.1),(I x1.2.2)]),[]⟩,⟨2,[73],fun vs=>AU (vs.getD 0 undef),[]⟩] [[],[],[0]] 2 z (by kernel_rfl) (by kernel_rfl) z ?_ ?_
  ·refine An z ?_ ?_
   ·intro w30 hB26
    refine Av<|⟨_,z,?_⟩
    refine AK (vs:=[]) (AD w30) Ah ty29 z z z z (by simp) z z (fun b8 w29 hC39 hB25=>?_)
    have hC40:=hC39.row0 (α:=(Int × (List Int)))
    have hC41:=hC40.front 1 z
    dsimp only [List.eraseIdx,List.cons_append,List.nil_append,List.append_nil] at hC41
    have hC42:Ctx [] w30 w29 (Ae (.slice (some ⟨b8,0,none⟩) 0 0) (([]:List (Int × (List Int))):List (Int × (List Int)))::[]):=hC41.rowOwn (by simp [maxLen])
    exact Ab<|C2 hC42 z z (fun F h=>h)
   refine An z ?_ ?_
   ·intro w30 hB26
    refine Av<|⟨_,z,?_⟩
    exact Ar [(I x1.1.1),v2,(I x1.2.1),(I x1.2.2)] (hC38.grow hB26) 2 z z z Bg A5 z z<|Ab<|A0 (Aq _ _) z z ⟨z,z⟩
   refine An z ?_ ?_
   ·intro w30 hB26
    refine A6 z z z fun v12 F8 hv12 _=>Av<|⟨_,z,?_⟩
    exact Ag z z<|Ab<|A0 (Aq _ _) z z ⟨z,z⟩
   exact Bd
  intro w31 hB27
  refine Au z z z fun v12 F8 hv12=>Au z z z<|?_
  rintro _ _ ⟨rfl,rfl⟩
  refine Au z z z ?_
  rintro _ _ ⟨rfl,rfl⟩
  refine Bn ?_
  intro hn7 hb7
  have hC43:=hC38.pushL hB27 (Bs:=[Ae v12 (([]:List (Int × (List Int))):(List (Int × (List Int))))]) (Fs:=[F8]) ⟨F8,_,z,hv12,z⟩ (by simpa using hn7) (fun b h=>(hb7 b (by simpa using h)).1)
  refine oe 3 z<|Al (cs':=[(I x1.1.1),v2,(I x1.2.1),(I x1.2.2)]) (new:=[(I x1.1.1),v2,(I x1.2.1),(I x1.2.2)]) hC43 5 z z (fac z<|fac (AP (hC43.ro 4 z))<|fac z<|fac z<|fa0) z A5 z z fun w32 hC44 hKp4=>?_
  try dsimp only [List.set] at hC44
  have hk12:=Ak ((((((hk1.then hB6).then hB19).then hB22).then hB23).then hB24).then hB27) (Ai ((Ao hB1).then hB2).size hN3) hKp4
  have hk13:=Ak ((((((hk2.then hB6).then hB19).then hB22).then hB23).then hB24).then hB27) (Ai (Ao hB2).size hN3) hKp4
  have hk14:=Ak ((((((hk3.then hB6).then hB19).then hB22).then hB23).then hB24).then hB27) hN3 hKp4
  refine Ab<|ta 4 z z z<|dn<|Ax<|AL<|A7<|?_
  obtain rfl:=Aa hF
  refine BS z (rv_tmp z) (rv_cell_agg (cs':=[(I x1.1.1),v2,(I x1.2.1),(I x1.2.2)]) hC44 (i:=5) z z z Bg A5 z) (rv_tmp z) ?_
  have hC45:=hC44.triv (Bp (3))
  have hC47:=hC45.f5
  have hC46:=BW x1.1.1 v2 x1.1.2 x1.2.1 x1.2.2 hC47
  have hC48:=hC46.f2
  exact ⟨_,z,res3_of hC48⟩
 replace hF:=AG hF hc6
 refine AR<|Ax<|Ad<|Af z z<|fd AZ Az z z z z<|Br (cs':=[(I x1.1.1),v2,(I x9.2.1),(I x1.2.2)]) hC37 2 z z z z Az z z fun w33 hC49 hKp5=>?_
 try dsimp only [List.set] at hC49
 have hk15:=Ak ((((hk1.then hB6).then hB19).then hB22).then hB23) (Ai ((((Ao hB1).then hB2).then hB3).then hB4).size hN4) hKp5
 have hk16:=Ak ((((hk2.then hB6).then hB19).then hB22).then hB23) (Ai (((Ao hB2).then hB3).then hB4).size hN4) hKp5
 have hk17:=Ak ((((hk3.then hB6).then hB19).then hB22).then hB23) (Ai ((Ao hB3).then hB4).size hN4) hKp5
 have hk18:=Ak ((((hk4.then hB6).then hB19).then hB22).then hB23) (Ai (Ao hB4).size hN4) hKp5
 have hk19:=Ak ((((hk5.then hB6).then hB19).then hB22).then hB23) hN4 hKp5
 refine Ab<|AC<|AC<|W_drawn 15 z hmix fun w34 hB28=>have hC50:=hC49.grow hB28;tm 0 z z z<|tm 1 z z z<|tf 2 AZ Ba z z z z z<|tf 3 AQ Az z z z z z<|tf 7 AZ Ba z z z z z<|tf 8 AQ A2 z z z z z<|tf 10 A1 AV z z z z z<|be hF fun x10 hx2 hF=>wAS (l':=[(1,u2),(4,(I a5)),(7,(ptr b1 0)),(8,(ptr b2 0)),(11,(ptr b3 0)),(13,(ptr b4 0)),(14,v9),(15,(I x9.2.1)),(16,(.bool x9.2.2)),(41,(.bool x2)),(44,(ptr b2 3)),(45,(I a4.2.2)),(46,(ptr b1 1)),(47,(I a3.2)),(48,(.bool (!decide (a4.2.2=a3.2)))),(51,(.tuple #[v9,(I x9.2.1),(.bool x9.2.2)])),(52,u2),(53,(ptr b2 0)),(54,(ptr b2 0)),(55,(I a4.1.1)),(56,(ptr b7 o1)),(57,(.agg #[(I x7.1),v6,(I x7.2.2.1),(I x7.2.2.2.1),(I x7.2.2.2.2)])),(58,(ptr b2 0)),(59,(ptr b2 1)),(60,u4),(61,(ptr b1 0)),(62,u3),(63,v8),(64,(ptr b2 2)),(65,(I a4.2.1)),(66,(I a5)),(67,(.tuple #[v9,(I x9.2.1),(.bool x9.2.2)])),(68,v9),(69,(I x9.2.1)),(70,(.bool x9.2.2)),(71,(.bool x9.2.2)),(72,(.bool (!x9.2.2))),(75,(I x9.2.1)),(76,(ptr b4 2)),(77,(I x9.2.1)),(78,u2),(79,(ptr b2 0)),(80,(ptr b2 0)),(84,(ptr b2 0)),(85,(ptr b2 1)),(87,(ptr b1 0))]) ⟨z,z,z,z,z,z,z,z,z,z,z,z,z,z,z,z,z,z,z,z,z,z,z,z,z,z,z,z,z,z,z,z,z,z,z,z,z,z,z,z,z,z,z,z,z,z,Am⟩<|Bm [⟨4,[],fun vs=>AU (I a4.1.1),[]⟩,⟨5,[],fun vs=>Ce [] w0 x10,[]⟩,⟨6,[],fun vs=>Cw [] w0 x10,[]⟩,⟨9,[],fun vs=>AU u4,[]⟩,⟨11,[],fun vs=>AU u3,[]⟩] [[],[4],[5],[],[]] 3 z (by kernel_rfl) (by kernel_rfl) z ?_ ?_
 ·refine An z ?_ ?_
  ·intro w35 hB29
   refine Av<|⟨_,z,?_⟩
   exact At (hC50.grow hB29) 5 z z AA z z<|Ab<|A0 (Aq _ _) z z ⟨z,z⟩
  refine An z ?_ ?_
  ·intro w35 hB29
   refine A6 z z z ?_
   rintro _ _ ⟨rfl,rfl⟩ _
   refine Av<|⟨_,z,?_⟩
   exact Bc Bl ty93 g2 hx2 z z z fun b9 o2 h5=>Ab<|A0 (Aq _ _) z z ⟨z,_,_,z,h5⟩
  refine An z ?_ ?_
  ·intro w35 hB29
   refine A6 z z z ?_
   rintro _ _ ⟨rfl,b9,o2,rfl,h5⟩ _
   refine Av<|⟨_,z,?_⟩
   exact Bf ty93 h5 (hC50.keep.then hB29) z z fun v15 h8=>Ab<|A0 (Aq _ _) z z ⟨z,h8⟩
  refine An z ?_ ?_
  ·intro w35 hB29
   refine Av<|⟨_,z,?_⟩
   exact At (hC50.grow hB29) 5 z z AT z z<|Ab<|A0 (Aq _ _) z z ⟨z,z⟩
  refine An z ?_ ?_
  ·intro w35 hB29
   refine Av<|⟨_,z,?_⟩
   exact At (hC50.grow hB29) 6 z z Bq z z<|Ab<|A0 (Aq _ _) z z ⟨z,z⟩
  exact Bd
 intro w36 hB30
 refine Au z z z ?_
 rintro _ _ ⟨rfl,rfl⟩
 refine Au z z z ?_
 rintro _ _ ⟨rfl,b9,o2,rfl,h5⟩
 refine Au z z z ?_
 rintro v15 _ ⟨rfl,h8⟩
 obtain ⟨v14,rfl,h7⟩:=CX h8
 refine Au z z z ?_
 rintro _ _ ⟨rfl,rfl⟩
 refine Au z z z ?_
 rintro _ _ ⟨rfl,rfl⟩
 refine Bn fun hn8 hb8=>have hC51:=hC50.grow hB30;be hF fun x11 hr9 hF=>oe 12 z<|A8 Tryz.call62 z z (c_S_l5Matches x10 v14 (h7.now hC51.keep) a4.1.2 u4 (g4.now hC51.keep) a3.1 u3 (g3.now hC51.keep) x11 hr9)<|?_
 rintro v16 w37 ⟨hB31,F9,hv13,hn9,hb9⟩
 have hC52:=hC51.push hB31 (A:=Ae v16 x11) hv13 hn9 hb9
 refine Ab<|tk 13 z z (CZ Ah (hC52.ro 0 z) z)<|Bo Ah (hC52.ro 0 z) z z<|Ab<|tk 14 z z (fl_eql z z)<|BO z z z<|Ab<|dn<|Ax<|AN z (fun hc7=>?_) (fun hc7=>?_)
 ·replace hF:=AF hF hc7
  refine AC<|W_drawn 5 z hmix fun w38 hB32=>have hC53:=hC52.grow hB32;tm 0 z z z<|ta 2 z z z<|oe 1 z<|Ar [(I x1.1.1),v2,(I x9.2.1),(I x1.2.2)] hC53 3 z z z Bg A5 z z<|Ab<|oe 3 z<|Al (cs':=[(I x1.1.1),v2,(I x9.2.1),(I x1.2.2)]) (new:=[(I x1.1.1),v2,(I x9.2.1),(I x1.2.2)]) hC53 5 z z (fac z<|fac (AP (hC53.ro 4 z))<|fac z<|fac z<|fa0) z A5 z z fun w39 hC54 hKp6=>?_
  try dsimp only [List.set] at hC54
  have hk20:=Ak ((((hk15.then hB28).then hB30).then hB31).then hB32) (Ai ((Ao hB1).then hB2).size hN3) hKp6
  have hk21:=Ak ((((hk16.then hB28).then hB30).then hB31).then hB32) (Ai (Ao hB2).size hN3) hKp6
  have hk22:=Ak ((((hk17.then hB28).then hB30).then hB31).then hB32) hN3 hKp6
  refine Ab<|ta 4 z z z<|dn<|Ax<|AL<|A7<|?_
  obtain rfl:=Aa hF
  refine BS z (rv_tmp z) (rv_cell_agg (cs':=[(I x1.1.1),v2,(I x9.2.1),(I x1.2.2)]) hC54 (i:=5) z z z Bg A5 z) (rv_tmp z) ?_
  have hC55:=hC54.triv (Bp (1))
  have hC57:=hC55.f5
  have hC56:=BW x1.1.1 v2 x1.1.2 x9.2.1 x1.2.2 hC57
  have hC58:=hC56.f3
  exact ⟨_,z,res3_of hC58⟩
 replace hF:=AG hF hc7
 refine AR<|Ax<|AC<|W_drawn 5 z hmix fun w40 hB33=>have hC59:=hC52.grow hB33;tm 0 z z z<|ta 2 z z z<|oe 1 z<|Ar [(I x1.1.1),v2,(I x9.2.1),(I x1.2.2)] hC59 3 z z z Bg A5 z z<|Ab<|oe 3 z<|Al (cs':=[(I x1.1.1),v2,(I x9.2.1),(I x1.2.2)]) (new:=[(I x1.1.1),v2,(I x9.2.1),(I x1.2.2)]) hC59 5 z z (fac z<|fac (AP (hC59.ro 4 z))<|fac z<|fac z<|fa0) z A5 z z fun w41 hC60 hKp7=>?_
 try dsimp only [List.set] at hC60
 have hk23:=Ak ((((hk15.then hB28).then hB30).then hB31).then hB33) (Ai ((Ao hB1).then hB2).size hN3) hKp7
 have hk24:=Ak ((((hk16.then hB28).then hB30).then hB31).then hB33) (Ai (Ao hB2).size hN3) hKp7
 have hk25:=Ak ((((hk17.then hB28).then hB30).then hB31).then hB33) hN3 hKp7
 refine Ab<|ta 4 z z z<|dn<|Ax<|AL<|?_
 obtain rfl:=Aa hF
 refine BS z (rv_tmp z) (rv_cell_agg (cs':=[(I x1.1.1),v2,(I x9.2.1),(I x1.2.2)]) hC60 (i:=5) z z z Bg A5 z) (rv_tmp z) ?_
 have hC61:=hC60.triv (Bp (0))
 have hC63:=hC61.f5
 have hC62:=BW x1.1.1 v2 x1.1.2 x9.2.1 x1.2.2 hC63
 have hC64:=hC62.f3
 exact ⟨_,z,res3_of hC64⟩
theorem c_Q_FnVersions {w0:World} (a1:(List UInt8)) (u1:Value) (g1:RO [] w0 u1 a1) (rr:Bool) (hF:Q.FnVersions a1=some rr) :
 Calls Tryz.prog 3 [u1].toArray w0 fun e w'=>∃v,e=.returned v∧Res w0 rr v w':=by
 refine A4 Tryz.func3 z z ?_
 have hC0:=AD w0
 unfold Q.FnVersions at hF
 refine Ad<|Ag z z<|Ab<|AC<|Ad<|Af z z<|be hF fun x1 hr1 hF=>cb Tryz.call5 z z (c_Q_big a1 u1 (g1.now hC0.keep) x1 hr1) fun w1 hB1=>have hC1:=hC0.grow hB1;Ab<|AN z (fun hc1=>?_) (fun hc1=>?_)
 ·replace hF:=AF hF hc1
  refine Ad<|Ag z z<|Ab<|AL<|A7<|?_
  obtain rfl:=Aa hF
  exact AE z z<|⟨_,z,Bh hC1 _⟩
 replace hF:=AG hF hc1
 refine AR<|Ax<|Ad<|Af z z<|be hF fun x2 hr2 hF=>A8 Tryz.call6 z z (c_S_DrawApplyChange a1 u1 (g1.now hC1.keep) x2 hr2)<|?_
 rintro _ w2 ⟨v1,v2,v3,rfl,hB2,h1,h2,h3⟩
 have hC2:=hC1.grow hB2
 refine Af z z<|AM z z z<|AM z z z<|AM z z z<|AW hC2 zero27 z z fun b1 w3 hC3 hB3 hN1=>AW hC3 zero31 z z fun b2 w4 hC4 hB4 hN2=>Ag z z<|Al (cs':=[v2,(I x2.2.1.2)]) (new:=[v2,(I x2.2.1.2)]) hC4 1 z z (fac (AP h2)<|fac z<|fa0) z Aw z z fun w5 hC5 hKp1=>?_
 try dsimp only [List.set] at hC5
 have hk1:=Ak ((((Ao hB1).then hB2).then hB3).then hB4) (Ai ((Ao hB1).then hB2).size hN1) hKp1
 have hk2:=Ak (((Ao hB2).then hB3).then hB4) (Ai (Ao hB2).size hN1) hKp1
 have hk3:=Ak ((Ao hB3).then hB4) hN1 hKp1
 refine Al (cs':=[(.bool x2.2.2.1),(I x2.2.2.2.1),v3]) (new:=[(.bool x2.2.2.1),(I x2.2.2.2.1),v3]) hC5 0 z z (fac z<|fac z<|fac (AP h3)<|fa0) z Bx z z (fun w6 hC6 hKp2=>?_)
 try dsimp only [List.set] at hC6
 have hk4:=Ak hk1 (Ai (((Ao hB1).then hB2).then hB3).size hN2) hKp2
 have hk5:=Ak hk2 (Ai ((Ao hB2).then hB3).size hN2) hKp2
 have hk6:=Ak hk3 (Ai (Ao hB3).size hN2) hKp2
 refine Ab<|Ad<|Af z z<|Ar [v2,(I x2.2.1.2)] hC6 1 z z z A9 Aw z z<|Ar [(.bool x2.2.2.1),(I x2.2.2.2.1),v3] hC6 0 z z z BN Bx z z<|be hF fun x3 hr3 hF=>A8 Tryz.call7 z z (c_M_ApplyChange x2.1 v1 (h1.now hk6) (x2.2.1.1,x2.2.1.2) v2 (h2.now hk6) (x2.2.2.1,(x2.2.2.2.1,x2.2.2.2.2)) v3 (h3.now hk6) x3 hr3)<|?_
 rintro _ w7 ⟨hB5,v4,v5,F1,F2,rfl,hv2,hv3,hn2,hb2⟩
 obtain ⟨rfl,rfl⟩:=val_bool hv3
 have hC7:=hC6.pushL hB5 (Bs:=[Ae v4 x3.1]) (Fs:=[F1]) ⟨F1,_,z,hv2,z⟩ (by simpa using hn2) (fun b h=>hb2 b (by simpa using h))
 obtain ⟨v6,rfl,hC8⟩:=st27_own hC7
 refine Af z z<|AM z z z<|AM z z z<|AW hC8 zero27 z z fun b3 w9 hC9 hB6 hN3=>Al (cs':=[v6,(I x3.1.2)]) (new:=[v6,(I x3.1.2)]) hC9 0 z z (fac (AP (hC9.ro 1 z))<|fac z<|fa0) z Aw z z fun w10 hC10 hKp3=>?_
 try dsimp only [List.set] at hC10
 have hk7:=Ak ((hk4.then hB5).then hB6) (Ai (hk4.then hB5).size hN3) hKp3
 have hk8:=Ak ((hk5.then hB5).then hB6) (Ai (hk5.then hB5).size hN3) hKp3
 have hk9:=Ak ((hk6.then hB5).then hB6) (Ai (hk6.then hB5).size hN3) hKp3
 have hk10:=Ak ((Ao hB5).then hB6) (Ai (Ao hB5).size hN3) hKp3
 have hk11:=Ak (Ao hB6) hN3 hKp3
 refine Ag z z<|Ab<|Ad<|Af z z<|Ar [v2,(I x2.2.1.2)] hC10 3 z z z A9 Aw z z<|Ar [(.bool x2.2.2.1),(I x2.2.2.2.1),v3] hC10 2 z z z BN Bx z z<|be hF fun x4 hr4 hF=>A8 Tryz.call8 z z (c_S_ApplyChange x2.1 v1 (h1.now hk9) (x2.2.1.1,x2.2.1.2) v2 (h2.now hk9) (x2.2.2.1,(x2.2.2.2.1,x2.2.2.2.2)) v3 (h3.now hk9) x4 hr4)<|?_
 rintro _ w11 ⟨hB7,v7,v8,F3,F4,rfl,hv4,hv5,hn3,hb3⟩
 obtain ⟨rfl,rfl⟩:=val_bool hv5
 have hC11:=hC10.pushL hB7 (Bs:=[Ae v7 x4.1]) (Fs:=[F3]) ⟨F3,_,z,hv4,z⟩ (by simpa using hn3) (fun b h=>hb3 b (by simpa using h))
 obtain ⟨v9,rfl,hC12⟩:=st27_own hC11
 refine Af z z<|AM z z z<|AM z z z<|AW hC12 zero27 z z fun b4 w12 hC13 hB8 hN4=>Al (cs':=[v9,(I x4.1.2)]) (new:=[v9,(I x4.1.2)]) hC13 0 z z (fac (AP (hC13.ro 1 z))<|fac z<|fa0) z Aw z z fun w13 hC14 hKp4=>?_
 try dsimp only [List.set] at hC14
 have hk12:=Ak ((hk7.then hB7).then hB8) (Ai (hk7.then hB7).size hN4) hKp4
 have hk13:=Ak ((hk8.then hB7).then hB8) (Ai (hk8.then hB7).size hN4) hKp4
 have hk14:=Ak ((hk9.then hB7).then hB8) (Ai (hk9.then hB7).size hN4) hKp4
 have hk15:=Ak ((hk10.then hB7).then hB8) (Ai (hk10.then hB7).size hN4) hKp4
 have hk16:=Ak ((hk11.then hB7).then hB8) (Ai (hk11.then hB7).size hN4) hKp4
 have hk17:=Ak ((Ao hB7).then hB8) (Ai (Ao hB7).size hN4) hKp4
 have hk18:=Ak (Ao hB8) hN4 hKp4
 refine Ag z z<|Ab<|AC<|be hF fun r1 hr5 hF=>BP (fun l w=>∃x5:Bool,x5=r1∧l=[(0,u1),(3,v1),(4,(ptr b1 0)),(5,(ptr b2 0)),(7,(.bool x3.2)),(8,(ptr b4 0)),(84,(.bool x5))]∧Below w13.heap.size w13 w∧Ctx [] w0 w [Ac b4 [v9,(I x4.1.2)],Ae v9 (x4.1.1:(List (Int × (List Int)))),Ac b2 [(.bool x2.2.2.1),(I x2.2.2.2.1),v3],Ac b1 [v2,(I x2.2.1.2)]]) ?_ ?_
 ·refine W_drawn 27 z hmix fun w15 hB10=>have hC16:=hC14.grow hB10;tm 0 z z z<|tm 1 z z z<|tk 2 z z (fl_bool_neq BK z z)<|WL_bool_neq BK z z z<|Ab<|tm 3 z z z<|BE (fun hc2=>?_) (fun hc2=>?_)
  ·replace hr5:=AF hr5 hc2
   refine sk 4 z z z z z<|sk 5 z z z z z<|sk 6 z z z z z<|sk 7 z z z z z<|sk 8 z z z z z<|sk 9 z z z z z<|tp 10 z z z z<|tm 11 z z z<|sk 12 z z z z z<|sk 13 z z z z z<|sk 14 z z z z z<|sk 15 z z z z z<|sk 16 z z z z z<|tp 17 z z z z<|tm 18 z z z<|sk 19 z z z z z<|sk 20 z z z z z<|sk 21 z z z z z<|sk 22 z z z z z<|sk 23 z z z z z<|sk 24 z z z z z<|sk 25 z z z z z<|tp 26 z z z z<|dn<|?_
   obtain rfl:=Aa hr5
   have hC17:=hC16.f5
   have hC18:=hC17.f5
   have hC19:=hC18.f3
   have hC20:=hC19.f3
   have hC21:=hC20.h4
   exact Ay (l':=[(0,u1),(3,v1),(4,(ptr b1 0)),(5,(ptr b2 0)),(7,(.bool x3.2)),(8,(ptr b4 0)),(84,(.bool true))]) ⟨z,z,z,z,z,z,z,Am⟩<|⟨true,z,z,(Ao hB10).below,hC21⟩
  replace hr5:=AG hr5 hc2
  refine tg 4 z z z z (B5 A1 z z (fun w=>⟨_,AV w⟩) z)<|Aj z z<|fd A1 AV z z z z<|Ab<|tg 6 z z z z (B5 A1 z z (fun w=>⟨_,AV w⟩) z)<|Aj z z<|fd A1 AV z z z z<|Ab<|wAS (l':=[(0,u1),(2,(.bool false)),(3,v1),(4,(ptr b1 0)),(5,(ptr b2 0)),(6,(ptr b3 0)),(7,(.bool x3.2)),(8,(ptr b4 0)),(9,(.bool x4.2)),(36,u1),(37,(.bool x1)),(38,(.tuple #[v1,(.agg #[v2,(I x2.2.1.2)]),(.agg #[(.bool x2.2.2.1),(I x2.2.2.2.1),v3])])),(39,u1),(40,(.tuple #[v1,(.agg #[v2,(I x2.2.1.2)]),(.agg #[(.bool x2.2.2.1),(I x2.2.2.2.1),v3])])),(41,v1),(42,(.agg #[v2,(I x2.2.1.2)])),(43,(.agg #[(.bool x2.2.2.1),(I x2.2.2.2.1),v3])),(44,(.tuple #[(.agg #[v6,(I x3.1.2)]),(.bool x3.2)])),(45,v1),(46,(.agg #[v2,(I x2.2.1.2)])),(47,(.agg #[(.bool x2.2.2.1),(I x2.2.2.2.1),v3])),(48,(.tuple #[(.agg #[v6,(I x3.1.2)]),(.bool x3.2)])),(49,(.agg #[v6,(I x3.1.2)])),(50,(.bool x3.2)),(51,(.tuple #[(.agg #[v9,(I x4.1.2)]),(.bool x4.2)])),(52,v1),(53,(.agg #[v2,(I x2.2.1.2)])),(54,(.agg #[(.bool x2.2.2.1),(I x2.2.2.2.1),v3])),(55,(.tuple #[(.agg #[v9,(I x4.1.2)]),(.bool x4.2)])),(56,(.agg #[v9,(I x4.1.2)])),(57,(.bool x4.2)),(58,(.bool x3.2)),(59,(.bool x4.2)),(60,(.bool (!decide (x3.2=x4.2)))),(61,(.bool false)),(62,(ptr b3 0)),(64,(ptr b4 0))]) ⟨z,z,z,z,z,z,z,z,z,z,z,z,z,z,z,z,z,z,z,z,z,z,z,z,z,z,z,z,z,z,z,z,z,z,z,z,z,Am⟩<|Bm [⟨5,[],fun vs=>AU v6,[]⟩,⟨7,[],fun vs=>AU v9,[]⟩] [[],[]] 19 z (by kernel_rfl) (by kernel_rfl) z ?_ ?_
  ·refine An z ?_ ?_
   ·intro w16 hB11
    refine Av<|⟨_,z,?_⟩
    exact Aj z z<|At (hC16.grow hB11) 2 z z Bq z z<|Ab<|A0 (Aq _ _) z z ⟨z,z⟩
   refine An z ?_ ?_
   ·intro w16 hB11
    refine Av<|⟨_,z,?_⟩
    exact Aj z z<|At (hC16.grow hB11) 0 z z Bq z z<|Ab<|A0 (Aq _ _) z z ⟨z,z⟩
   exact Bd
  intro w17 hB12
  refine Au z z z ?_
  rintro _ _ ⟨rfl,rfl⟩
  refine Au z z z ?_
  rintro _ _ ⟨rfl,rfl⟩
  refine Bn fun hn4 hb4=>have hC22:=hC16.grow hB12;be hr5 fun x6 hr6 hr5=>oe 8 z<|Aj z z<|cb CU z z (c_S_SameFacts x3.1.1 v6 ((hC22.ro 3 z).now (Be _ _)) x4.1.1 v9 ((hC22.ro 1 z).now (Be _ _)) x6 hr6) fun w18 hB13=>have hC23:=hC22.grow hB13;Ab<|tg 9 z z z z (Cy z)<|Aj z z<|B2 z z<|Ab<|tq 10 z z z z<|tm 11 z z z<|BE (fun hc3=>?_) (fun hc3=>?_)
  ·replace hr5:=AF hr5 hc3
   refine sk 12 z z z z z<|sk 13 z z z z z<|sk 14 z z z z z<|sk 15 z z z z z<|sk 16 z z z z z<|tp 17 z z z z<|tm 18 z z z<|sk 19 z z z z z<|sk 20 z z z z z<|sk 21 z z z z z<|sk 22 z z z z z<|sk 23 z z z z z<|sk 24 z z z z z<|sk 25 z z z z z<|tp 26 z z z z<|dn<|?_
   obtain rfl:=Aa hr5
   have hC24:=hC23.f5
   have hC25:=hC24.f5
   have hC26:=hC25.f3
   have hC27:=hC26.f3
   have hC28:=hC27.h4
   exact Ay (l':=[(0,u1),(3,v1),(4,(ptr b1 0)),(5,(ptr b2 0)),(7,(.bool x3.2)),(8,(ptr b4 0)),(84,(.bool true))]) ⟨z,z,z,z,z,z,z,Am⟩<|⟨true,z,z,(((Ao hB10).then hB12).then hB13).below,hC28⟩
  replace hr5:=AG hr5 hc3
  refine tg 12 z z z z (B5 A1 z z (fun w=>⟨_,Az w⟩) z)<|Aj z z<|fd A1 Az z z z z<|Ab<|tg 14 z z z z (B5 A1 z z (fun w=>⟨_,Az w⟩) z)<|Aj z z<|fd A1 Az z z z z<|Ab<|wAS (l':=[(0,u1),(2,(.bool false)),(3,v1),(4,(ptr b1 0)),(5,(ptr b2 0)),(6,(ptr b3 0)),(7,(.bool x3.2)),(8,(ptr b4 0)),(9,(.bool x4.2)),(36,u1),(37,(.bool x1)),(38,(.tuple #[v1,(.agg #[v2,(I x2.2.1.2)]),(.agg #[(.bool x2.2.2.1),(I x2.2.2.2.1),v3])])),(39,u1),(40,(.tuple #[v1,(.agg #[v2,(I x2.2.1.2)]),(.agg #[(.bool x2.2.2.1),(I x2.2.2.2.1),v3])])),(41,v1),(42,(.agg #[v2,(I x2.2.1.2)])),(43,(.agg #[(.bool x2.2.2.1),(I x2.2.2.2.1),v3])),(44,(.tuple #[(.agg #[v6,(I x3.1.2)]),(.bool x3.2)])),(45,v1),(46,(.agg #[v2,(I x2.2.1.2)])),(47,(.agg #[(.bool x2.2.2.1),(I x2.2.2.2.1),v3])),(48,(.tuple #[(.agg #[v6,(I x3.1.2)]),(.bool x3.2)])),(49,(.agg #[v6,(I x3.1.2)])),(50,(.bool x3.2)),(51,(.tuple #[(.agg #[v9,(I x4.1.2)]),(.bool x4.2)])),(52,v1),(53,(.agg #[v2,(I x2.2.1.2)])),(54,(.agg #[(.bool x2.2.2.1),(I x2.2.2.2.1),v3])),(55,(.tuple #[(.agg #[v9,(I x4.1.2)]),(.bool x4.2)])),(56,(.agg #[v9,(I x4.1.2)])),(57,(.bool x4.2)),(58,(.bool x3.2)),(59,(.bool x4.2)),(60,(.bool (!decide (x3.2=x4.2)))),(61,(.bool false)),(62,(ptr b3 0)),(63,v6),(64,(ptr b4 0)),(65,v9),(66,(.bool x6)),(67,(.bool (!x6))),(68,(.bool (!x6))),(69,(.bool false)),(70,(ptr b3 1)),(72,(ptr b4 1))]) ⟨z,z,z,z,z,z,z,z,z,z,z,z,z,z,z,z,z,z,z,z,z,z,z,z,z,z,z,z,z,z,z,z,z,z,z,z,z,z,z,z,z,z,z,z,z,Am⟩<|Bm [⟨13,[],fun vs=>AU (I x3.1.2),[]⟩,⟨15,[],fun vs=>AU (I x4.1.2),[]⟩] [[],[]] 11 z (by kernel_rfl) (by kernel_rfl) z ?_ ?_
  ·refine An z ?_ ?_
   ·intro w19 hB14
    refine Av<|⟨_,z,?_⟩
    exact Aj z z<|At (hC23.grow hB14) 2 z z AA z z<|Ab<|A0 (Aq _ _) z z ⟨z,z⟩
   refine An z ?_ ?_
   ·intro w19 hB14
    refine Av<|⟨_,z,?_⟩
    exact Aj z z<|At (hC23.grow hB14) 0 z z AA z z<|Ab<|A0 (Aq _ _) z z ⟨z,z⟩
   exact Bd
  intro w20 hB15
  refine Au z z z ?_
  rintro _ _ ⟨rfl,rfl⟩
  refine Au z z z ?_
  rintro _ _ ⟨rfl,rfl⟩
  refine Bn fun hn5 hb5=>have hC29:=hC23.grow hB15;tg 16 z z z z (CT z z)<|Aj z z<|Cp z z z<|Ab<|tq 17 z z z z<|tm 18 z z z<|BE (fun hc4=>?_) (fun hc4=>?_)
  ·replace hr5:=AF hr5 hc4
   refine sk 19 z z z z z<|sk 20 z z z z z<|sk 21 z z z z z<|sk 22 z z z z z<|sk 23 z z z z z<|sk 24 z z z z z<|sk 25 z z z z z<|tp 26 z z z z<|dn<|?_
   obtain rfl:=Aa hr5
   have hC30:=hC29.f5
   have hC31:=hC30.f5
   have hC32:=hC31.f3
   have hC33:=hC32.f3
   have hC34:=hC33.h4
   exact Ay (l':=[(0,u1),(3,v1),(4,(ptr b1 0)),(5,(ptr b2 0)),(7,(.bool x3.2)),(8,(ptr b4 0)),(84,(.bool true))]) ⟨z,z,z,z,z,z,z,Am⟩<|⟨true,z,z,((((Ao hB10).then hB12).then hB13).then hB15).below,hC34⟩
  replace hr5:=AG hr5 hc4
  refine tn 19 z z z z z<|tn 22 z z z z z<|be hr5 fun x7 hr7 hr5=>wAS (l':=[(0,u1),(2,(.bool false)),(3,v1),(4,(ptr b1 0)),(5,(ptr b2 0)),(6,(ptr b3 0)),(7,(.bool x3.2)),(8,(ptr b4 0)),(9,(.bool x4.2)),(36,u1),(37,(.bool x1)),(38,(.tuple #[v1,(.agg #[v2,(I x2.2.1.2)]),(.agg #[(.bool x2.2.2.1),(I x2.2.2.2.1),v3])])),(39,u1),(40,(.tuple #[v1,(.agg #[v2,(I x2.2.1.2)]),(.agg #[(.bool x2.2.2.1),(I x2.2.2.2.1),v3])])),(41,v1),(42,(.agg #[v2,(I x2.2.1.2)])),(43,(.agg #[(.bool x2.2.2.1),(I x2.2.2.2.1),v3])),(44,(.tuple #[(.agg #[v6,(I x3.1.2)]),(.bool x3.2)])),(45,v1),(46,(.agg #[v2,(I x2.2.1.2)])),(47,(.agg #[(.bool x2.2.2.1),(I x2.2.2.2.1),v3])),(48,(.tuple #[(.agg #[v6,(I x3.1.2)]),(.bool x3.2)])),(49,(.agg #[v6,(I x3.1.2)])),(50,(.bool x3.2)),(51,(.tuple #[(.agg #[v9,(I x4.1.2)]),(.bool x4.2)])),(52,v1),(53,(.agg #[v2,(I x2.2.1.2)])),(54,(.agg #[(.bool x2.2.2.1),(I x2.2.2.2.1),v3])),(55,(.tuple #[(.agg #[v9,(I x4.1.2)]),(.bool x4.2)])),(56,(.agg #[v9,(I x4.1.2)])),(57,(.bool x4.2)),(58,(.bool x3.2)),(59,(.bool x4.2)),(60,(.bool (!decide (x3.2=x4.2)))),(61,(.bool false)),(62,(ptr b3 0)),(63,v6),(64,(ptr b4 0)),(65,v9),(66,(.bool x6)),(67,(.bool (!x6))),(68,(.bool (!x6))),(69,(.bool false)),(70,(ptr b3 1)),(71,(I x3.1.2)),(72,(ptr b4 1)),(73,(I x4.1.2)),(74,(.bool (!decide (x3.1.2=x4.1.2)))),(75,(.bool (!decide (x3.1.2=x4.1.2)))),(76,(.bool false)),(77,v1),(80,v1)]) ⟨z,z,z,z,z,z,z,z,z,z,z,z,z,z,z,z,z,z,z,z,z,z,z,z,z,z,z,z,z,z,z,z,z,z,z,z,z,z,z,z,z,z,z,z,z,z,z,z,z,z,z,z,Am⟩<|Bm [⟨20,[],fun vs=>AU (.agg #[v2,(I x2.2.1.2)]),[]⟩,⟨21,[],fun vs=>AU (.bool x7),[]⟩,⟨23,[],fun vs=>AU (.agg #[v2,(I x2.2.1.2)]),[]⟩] [[],[20],[]] 3 z (by kernel_rfl) (by kernel_rfl) z ?_ ?_
  ·refine An z ?_ ?_
   ·intro w22 hB17
    refine Av<|⟨_,z,?_⟩
    exact Aj z z<|Ar [v2,(I x2.2.1.2)] (hC29.grow hB17) 5 z z z A9 Aw z z<|Ab<|A0 (Aq _ _) z z ⟨z,z⟩
   refine An z ?_ ?_
   ·intro w22 hB17
    refine A6 z z z ?_
    rintro _ _ ⟨rfl,rfl⟩ _
    refine Av<|⟨_,z,?_⟩
    exact Aj z z<|cb CQ z z (c_M_IsSource x2.1 v1 (h1.now (((((hk14.then hB10).then hB12).then hB13).then hB15).then hB17)) (x2.2.1.1,x2.2.1.2) v2 (h2.now (((((hk14.then hB10).then hB12).then hB13).then hB15).then hB17)) x7 hr7) fun w21 hB16=>Ab<|A0 hB16 z z ⟨z,z⟩
   refine An z ?_ ?_
   ·intro w22 hB17
    refine Av<|⟨_,z,?_⟩
    exact Aj z z<|Ar [v2,(I x2.2.1.2)] (hC29.grow hB17) 5 z z z A9 Aw z z<|Ab<|A0 (Aq _ _) z z ⟨z,z⟩
   exact Bd
  intro w23 hB18
  refine Au z z z ?_
  rintro _ _ ⟨rfl,rfl⟩
  refine Au z z z ?_
  rintro _ _ ⟨rfl,rfl⟩
  refine Au z z z ?_
  rintro _ _ ⟨rfl,rfl⟩
  refine Bn fun hn6 hb6=>have hC35:=hC29.grow hB18;be hr5 fun x8 hr8 hr5=>oe 24 z<|Aj z z<|cb CR z z (c_S_IsSource x2.1 v1 (h1.now (((((hk14.then hB10).then hB12).then hB13).then hB15).then hB18)) (x2.2.1.1,x2.2.1.2) v2 (h2.now (((((hk14.then hB10).then hB12).then hB13).then hB15).then hB18)) x8 hr8) fun w24 hB19=>have hC36:=hC35.grow hB19;Ab<|tg 25 z z z z (fl_bool_neq BK z z)<|Aj z z<|WL_bool_neq BK z z z<|Ab<|tq 26 z z z z<|dn<|?_
  obtain rfl:=Aa hr5
  have hC37:=hC36.f5
  have hC38:=hC37.f5
  have hC39:=hC38.f3
  have hC40:=hC39.f3
  have hC41:=hC40.h4
  exact Ay (l':=[(0,u1),(3,v1),(4,(ptr b1 0)),(5,(ptr b2 0)),(7,(.bool x3.2)),(8,(ptr b4 0)),(84,(.bool (!decide (x7=x8))))]) ⟨z,z,z,z,z,z,z,Am⟩<|⟨(!decide (x7=x8)),z,z,((((((Ao hB10).then hB12).then hB13).then hB15).then hB18).then hB19).below,hC41⟩
 rintro _ w14 ⟨x5,rfl,rfl,hB9,hC15⟩
 try dsimp only at hF
 refine AN z (fun hc5=>?_) (fun hc5=>?_)
 ·replace hF:=AF hF hc5
  refine Ad<|Ag z z<|Ab<|AL<|A7<|?_
  obtain rfl:=Aa hF
  exact AE z z<|⟨_,z,Bh hC15 _⟩
 replace hF:=AG hF hc5
 refine AR<|Ax<|AC<|Ad<|Af z z<|Ab<|be hF fun r2 hr9 hF=>Bv (fun l w=>.inl ()=r2∧l=[(0,u1)]∧Ctx [] w0 w []) ?_ ?_
 ·refine AN z (fun hc6=>?_) (fun hc6=>?_)
  ·replace hr9:=AF hr9 hc6
   refine Ad<|Af z z<|Ar [v9,(I x4.1.2)] hC15 0 z z z A9 Aw z z<|fd Bk BT z z z z<|At hC15 2 z z Co z z<|B2 z z<|fd Bk AI z z z z<|Ar [(I x2.2.2.2.1),v3] hC15 2 z z z Bu AI z z<|BB (vs:=[(0,(.bool (!x2.2.2.1))),(1,(.agg #[(I x2.2.2.2.1),v3]))]) z z z (built31_0_1 z z)<|be hr9 fun x9 hr10 hr9=>A8 Tryz.call7 z z (c_M_ApplyChange x2.1 v1 (h1.now (hk14.then hB9)) (x4.1.1,x4.1.2) v9 ((hC15.ro 1 z).now (Be _ _)) ((!x2.2.2.1),(x2.2.2.2.1,x2.2.2.2.2)) v3 (h3.now (hk14.then hB9)) x9 hr10)<|?_
   rintro _ w26 ⟨hB21,v10,v11,F5,F6,rfl,hv9,hv10,hn7,hb7⟩
   obtain ⟨rfl,rfl⟩:=val_bool hv10
   have hC43:=hC15.pushL hB21 (Bs:=[Ae v10 x9.1]) (Fs:=[F5]) ⟨F5,_,z,hv9,z⟩ (by simpa using hn7) (fun b h=>hb7 b (by simpa using h))
   obtain ⟨v12,rfl,hC44⟩:=st27_own hC43
   refine Af z z<|AM z z z<|AM z z z<|AW hC44 zero27 z z fun b5 w27 hC45 hB22 hN5=>Al (cs':=[v12,(I x9.1.2)]) (new:=[v12,(I x9.1.2)]) hC45 0 z z (fac (AP (hC45.ro 1 z))<|fac z<|fa0) z Aw z z fun w28 hC46 hKp5=>?_
   try dsimp only [List.set] at hC46
   have hk19:=Ak (((hk12.then hB9).then hB21).then hB22) (Ai ((hk12.then hB9).then hB21).size hN5) hKp5
   have hk20:=Ak (((hk13.then hB9).then hB21).then hB22) (Ai ((hk13.then hB9).then hB21).size hN5) hKp5
   have hk21:=Ak (((hk14.then hB9).then hB21).then hB22) (Ai ((hk14.then hB9).then hB21).size hN5) hKp5
   have hk22:=Ak (((hk15.then hB9).then hB21).then hB22) (Ai ((hk15.then hB9).then hB21).size hN5) hKp5
   have hk23:=Ak (((hk16.then hB9).then hB21).then hB22) (Ai ((hk16.then hB9).then hB21).size hN5) hKp5
   have hk24:=Ak (((hk17.then hB9).then hB21).then hB22) (Ai ((hk17.then hB9).then hB21).size hN5) hKp5
   have hk25:=Ak (((hk18.then hB9).then hB21).then hB22) (Ai ((hk18.then hB9).then hB21).size hN5) hKp5
   have hk26:=Ak (((Ao hB9).then hB21).then hB22) (Ai ((Ao hB9).then hB21).size hN5) hKp5
   have hk27:=Ak ((Ao hB21).then hB22) (Ai (Ao hB21).size hN5) hKp5
   have hk28:=Ak (Ao hB22) hN5 hKp5
   refine Ag z z<|Ab<|be hr9 fun r3 hr11 hr9=>BP (fun l w=>∃x10:Bool,x10=r3∧l=[(0,u1),(133,(.bool x10))]∧Below w28.heap.size w28 w∧Ctx [] w0 w []) ?_ ?_
   ·refine W_drawn 36 z hmix fun w30 hB24=>have hC48:=hC46.grow hB24;tf 0 A1 Az z z z z z<|tf 2 A1 Az z z z z z<|wAS (l':=[(0,u1),(3,v1),(4,(ptr b1 0)),(5,(ptr b2 0)),(7,(.bool x3.2)),(8,(ptr b4 0)),(10,(ptr b5 0)),(11,(.bool x9.2)),(84,(.bool x5)),(85,(.bool x3.2)),(86,(.tuple #[(.agg #[v12,(I x9.1.2)]),(.bool x9.2)])),(87,v1),(88,(.agg #[v9,(I x4.1.2)])),(89,(ptr b2 0)),(90,(.bool x2.2.2.1)),(91,(.bool (!x2.2.2.1))),(92,(ptr b2 1)),(93,(.agg #[(I x2.2.2.2.1),v3])),(94,(.agg #[(.bool (!x2.2.2.1)),(I x2.2.2.2.1),v3])),(95,(.tuple #[(.agg #[v12,(I x9.1.2)]),(.bool x9.2)])),(96,(.agg #[v12,(I x9.1.2)])),(97,(.bool x9.2)),(98,(ptr b4 1)),(100,(ptr b1 1))]) ⟨z,z,z,z,z,z,z,z,z,z,z,z,z,z,z,z,z,z,z,z,z,z,z,z,Am⟩<|Bm [⟨1,[],fun vs=>AU (I x4.1.2),[]⟩,⟨3,[],fun vs=>AU (I x2.2.1.2),[]⟩,⟨4,[],fun vs=>AU (I (w64 (x2.2.1.2+1))),[]⟩] [[],[],[3]] 31 z (by kernel_rfl) (by kernel_rfl) z ?_ ?_
    ·refine An z ?_ ?_
     ·intro w31 hB25
      refine Av<|⟨_,z,?_⟩
      exact At (hC48.grow hB25) 2 z z AA z z<|Ab<|A0 (Aq _ _) z z ⟨z,z⟩
     refine An z ?_ ?_
     ·intro w31 hB25
      refine Av<|⟨_,z,?_⟩
      exact At (hC48.grow hB25) 5 z z AA z z<|Ab<|A0 (Aq _ _) z z ⟨z,z⟩
     refine An z ?_ ?_
     ·intro w31 hB25
      refine A6 z z z ?_
      rintro _ _ ⟨rfl,rfl⟩ _
      refine Av<|⟨_,z,?_⟩
      exact By z z z<|Ab<|A0 (Aq _ _) z z ⟨z,z⟩
     exact Bd
    intro w32 hB26
    refine Au z z z ?_
    rintro _ _ ⟨rfl,rfl⟩
    refine Au z z z ?_
    rintro _ _ ⟨rfl,rfl⟩
    refine Au z z z ?_
    rintro _ _ ⟨rfl,rfl⟩
    refine Bn fun hn8 hb8=>have hC49:=hC48.grow hB26;tk 5 z z (CT z z)<|Cp z z z<|Ab<|tm 6 z z z<|BE (fun hc7=>?_) (fun hc7=>?_)
    ·replace hr11:=AF hr11 hc7
     refine sk 7 z z z z z<|sk 8 z z z z z<|sk 9 z z z z z<|sk 10 z z z z z<|sk 11 z z z z z<|sk 12 z z z z z<|sk 13 z z z z z<|sk 14 z z z z z<|tp 15 z z z z<|tm 16 z z z<|sk 17 z z z z z<|sk 18 z z z z z<|sk 19 z z z z z<|sk 20 z z z z z<|sk 21 z z z z z<|sk 22 z z z z z<|sk 23 z z z z z<|sk 24 z z z z z<|sk 25 z z z z z<|tp 26 z z z z<|tm 27 z z z<|sk 28 z z z z z<|sk 29 z z z z z<|sk 30 z z z z z<|sk 31 z z z z z<|sk 32 z z z z z<|sk 33 z z z z z<|sk 34 z z z z z<|tp 35 z z z z<|dn<|?_
     obtain rfl:=Aa hr11
     have hC50:=hC49.h0
     exact Ay (l':=[(0,u1),(133,(.bool true))]) ⟨z,z,Am⟩<|⟨true,z,z,((Ao hB24).then hB26).below,hC50⟩
    replace hr11:=AG hr11 hc7
    refine tg 7 z z z z (B5 A1 z z (fun w=>⟨_,AV w⟩) z)<|Aj z z<|fd A1 AV z z z z<|Ab<|tg 9 z z z z (B5 Bk z z (fun w=>⟨_,AI w⟩) z)<|Aj z z<|fd Bk AI z z z z<|Ab<|tg 12 z z z z (B5 Bk z z (fun w=>⟨_,BT w⟩) z)<|Aj z z<|fd Bk BT z z z z<|Ab<|be hr11 fun x11 hr12 hr11=>wAS (l':=[(0,u1),(3,v1),(4,(ptr b1 0)),(5,(ptr b2 0)),(7,(.bool x3.2)),(8,(ptr b4 0)),(10,(ptr b5 0)),(11,(.bool x9.2)),(84,(.bool x5)),(85,(.bool x3.2)),(86,(.tuple #[(.agg #[v12,(I x9.1.2)]),(.bool x9.2)])),(87,v1),(88,(.agg #[v9,(I x4.1.2)])),(89,(ptr b2 0)),(90,(.bool x2.2.2.1)),(91,(.bool (!x2.2.2.1))),(92,(ptr b2 1)),(93,(.agg #[(I x2.2.2.2.1),v3])),(94,(.agg #[(.bool (!x2.2.2.1)),(I x2.2.2.2.1),v3])),(95,(.tuple #[(.agg #[v12,(I x9.1.2)]),(.bool x9.2)])),(96,(.agg #[v12,(I x9.1.2)])),(97,(.bool x9.2)),(98,(ptr b4 1)),(99,(I x4.1.2)),(100,(ptr b1 1)),(101,(I x2.2.1.2)),(102,(I (w64 (x2.2.1.2+1)))),(103,(.bool (!decide (x4.1.2=(w64 (x2.2.1.2+1)))))),(104,(.bool false)),(105,(ptr b4 0)),(107,(ptr b2 1)),(110,(ptr b2 0))]) ⟨z,z,z,z,z,z,z,z,z,z,z,z,z,z,z,z,z,z,z,z,z,z,z,z,z,z,z,z,z,z,z,z,Am⟩<|Bm [⟨8,[],fun vs=>AU v9,[]⟩,⟨10,[],fun vs=>AU (.agg #[(I x2.2.2.2.1),v3]),[]⟩,⟨11,[],fun vs=>AU (.bool x11),[]⟩,⟨13,[],fun vs=>AU (.bool x2.2.2.1),[]⟩] [[],[],[8,10],[]] 22 z (by kernel_rfl) (by kernel_rfl) z ?_ ?_
    ·refine An z ?_ ?_
     ·intro w34 hB28
      refine Av<|⟨_,z,?_⟩
      exact Aj z z<|At (hC49.grow hB28) 2 z z Bq z z<|Ab<|A0 (Aq _ _) z z ⟨z,z⟩
     refine An z ?_ ?_
     ·intro w34 hB28
      refine Av<|⟨_,z,?_⟩
      exact Aj z z<|Ar [(I x2.2.2.2.1),v3] (hC49.grow hB28) 4 z z z Bu AI z z<|Ab<|A0 (Aq _ _) z z ⟨z,z⟩
     refine An z ?_ ?_
     ·intro w34 hB28
      refine A6 z z z ?_
      rintro _ _ ⟨rfl,rfl⟩ _
      refine A6 z z z ?_
      rintro _ _ ⟨rfl,rfl⟩ _
      refine Av<|⟨_,z,?_⟩
      exact Aj z z<|cb Tryz.call12 z z (c_S_HasFact x4.1.1 v9 ((hC49.grow hB28).ro 3 z) (x2.2.2.2.1,x2.2.2.2.2) v3 (h3.now (((hk21.then hB24).then hB26).then hB28)) x11 hr12) fun w33 hB27=>Ab<|A0 hB27 z z ⟨z,z⟩
     refine An z ?_ ?_
     ·intro w34 hB28
      refine Av<|⟨_,z,?_⟩
      exact Aj z z<|At (hC49.grow hB28) 4 z z Co z z<|Ab<|A0 (Aq _ _) z z ⟨z,z⟩
     exact Bd
    intro w35 hB29
    refine Au z z z ?_
    rintro _ _ ⟨rfl,rfl⟩
    refine Au z z z ?_
    rintro _ _ ⟨rfl,rfl⟩
    refine Au z z z ?_
    rintro _ _ ⟨rfl,rfl⟩
    refine Au z z z ?_
    rintro _ _ ⟨rfl,rfl⟩
    refine Bn fun hn9 hb9=>have hC51:=hC49.grow hB29;tg 14 z z z z (fl_bool_neq BK z z)<|Aj z z<|WL_bool_neq BK z z z<|Ab<|tq 15 z z z z<|tm 16 z z z<|BE (fun hc8=>?_) (fun hc8=>?_)
    ·replace hr11:=AF hr11 hc8
     refine sk 17 z z z z z<|sk 18 z z z z z<|sk 19 z z z z z<|sk 20 z z z z z<|sk 21 z z z z z<|sk 22 z z z z z<|sk 23 z z z z z<|sk 24 z z z z z<|sk 25 z z z z z<|tp 26 z z z z<|tm 27 z z z<|sk 28 z z z z z<|sk 29 z z z z z<|sk 30 z z z z z<|sk 31 z z z z z<|sk 32 z z z z z<|sk 33 z z z z z<|sk 34 z z z z z<|tp 35 z z z z<|dn<|?_
     obtain rfl:=Aa hr11
     have hC52:=hC51.h0
     exact Ay (l':=[(0,u1),(133,(.bool true))]) ⟨z,z,Am⟩<|⟨true,z,z,(((Ao hB24).then hB26).then hB29).below,hC52⟩
    replace hr11:=AG hr11 hc8
    refine tn 17 z z z z z<|tn 18 z z z z z<|BE (fun hc9=>?_) (fun hc9=>?_)
    ·replace hr11:=AF hr11 hc9
     refine tg 19 z z z z (B5 A1 z z (fun w=>⟨_,AV w⟩) z)<|Aj z z<|fd A1 AV z z z z<|Ab<|tg 21 z z z z (B5 A1 z z (fun w=>⟨_,AV w⟩) z)<|Aj z z<|fd A1 AV z z z z<|Ab<|wAS (l':=[(0,u1),(3,v1),(4,(ptr b1 0)),(5,(ptr b2 0)),(7,(.bool x3.2)),(8,(ptr b4 0)),(10,(ptr b5 0)),(11,(.bool x9.2)),(84,(.bool x5)),(85,(.bool x3.2)),(86,(.tuple #[(.agg #[v12,(I x9.1.2)]),(.bool x9.2)])),(87,v1),(88,(.agg #[v9,(I x4.1.2)])),(89,(ptr b2 0)),(90,(.bool x2.2.2.1)),(91,(.bool (!x2.2.2.1))),(92,(ptr b2 1)),(93,(.agg #[(I x2.2.2.2.1),v3])),(94,(.agg #[(.bool (!x2.2.2.1)),(I x2.2.2.2.1),v3])),(95,(.tuple #[(.agg #[v12,(I x9.1.2)]),(.bool x9.2)])),(96,(.agg #[v12,(I x9.1.2)])),(97,(.bool x9.2)),(98,(ptr b4 1)),(99,(I x4.1.2)),(100,(ptr b1 1)),(101,(I x2.2.1.2)),(102,(I (w64 (x2.2.1.2+1)))),(103,(.bool (!decide (x4.1.2=(w64 (x2.2.1.2+1)))))),(104,(.bool false)),(105,(ptr b4 0)),(106,v9),(107,(ptr b2 1)),(108,(.agg #[(I x2.2.2.2.1),v3])),(109,(.bool x11)),(110,(ptr b2 0)),(111,(.bool x2.2.2.1)),(112,(.bool (!decide (x11=x2.2.2.1)))),(113,(.bool (!decide (x11=x2.2.2.1)))),(114,(.bool false)),(115,(.bool x9.2)),(116,(.bool true)),(117,(ptr b5 0)),(119,(ptr b1 0))]) ⟨z,z,z,z,z,z,z,z,z,z,z,z,z,z,z,z,z,z,z,z,z,z,z,z,z,z,z,z,z,z,z,z,z,z,z,z,z,z,z,z,z,z,z,Am⟩<|Bm [⟨20,[],fun vs=>AU v12,[]⟩,⟨22,[],fun vs=>AU v2,[]⟩] [[],[]] 13 z (by kernel_rfl) (by kernel_rfl) z ?_ ?_
     ·refine An z ?_ ?_
      ·intro w36 hB30
       refine Av<|⟨_,z,?_⟩
       exact Aj z z<|At (hC51.grow hB30) 0 z z Bq z z<|Ab<|A0 (Aq _ _) z z ⟨z,z⟩
      refine An z ?_ ?_
      ·intro w36 hB30
       refine Av<|⟨_,z,?_⟩
       exact Aj z z<|At (hC51.grow hB30) 5 z z Bq z z<|Ab<|A0 (Aq _ _) z z ⟨z,z⟩
      exact Bd
     intro w37 hB31
     refine Au z z z ?_
     rintro _ _ ⟨rfl,rfl⟩
     refine Au z z z ?_
     rintro _ _ ⟨rfl,rfl⟩
     refine Bn fun hn10 hb10=>have hC53:=hC51.grow hB31;be hr11 fun x12 hr13 hr11=>oe 23 z<|Aj z z<|cb CU z z (c_S_SameFacts x9.1.1 v12 ((hC53.ro 1 z).now (Be _ _)) x2.2.1.1 v2 (h2.now ((((hk21.then hB24).then hB26).then hB29).then hB31)) x12 hr13) fun w38 hB32=>have hC54:=hC53.grow hB32;Ab<|tg 24 z z z z (Cy z)<|Aj z z<|B2 z z<|Ab<|tg 25 z z z z (C9 z z)<|Aj z z<|AX z z z<|Ab<|tq 26 z z z z<|tm 27 z z z<|BE (fun hc10=>?_) (fun hc10=>?_)
     ·replace hr11:=AF hr11 hc10
      refine sk 28 z z z z z<|sk 29 z z z z z<|sk 30 z z z z z<|sk 31 z z z z z<|sk 32 z z z z z<|sk 33 z z z z z<|sk 34 z z z z z<|tp 35 z z z z<|dn<|?_
      obtain rfl:=Aa hr11
      have hC55:=hC54.h0
      exact Ay (l':=[(0,u1),(133,(.bool true))]) ⟨z,z,Am⟩<|⟨true,z,z,(((((Ao hB24).then hB26).then hB29).then hB31).then hB32).below,hC55⟩
     replace hr11:=AG hr11 hc10
     refine tn 28 z z z z z<|tg 29 z z z z (Cy z)<|Aj z z<|B2 z z<|Ab<|tn 30 z z z z z<|BE (fun hc11=>?_) (fun hc11=>?_)
     ·replace hr11:=AF hr11 hc11
      refine tg 31 z z z z (B5 A1 z z (fun w=>⟨_,Az w⟩) z)<|Aj z z<|fd A1 Az z z z z<|Ab<|oe 32 z<|Aj z z<|At hC54 2 z z AA z z<|Ab<|tg 33 z z z z (fl_lss z z)<|Aj z z<|B6 z z z<|Ab<|tg 34 z z z z (C9 z z)<|Aj z z<|AX z z z<|Ab<|tq 35 z z z z<|dn<|?_
      obtain rfl:=Aa hr11
      have hC56:=hC54.h0
      exact Ay (l':=[(0,u1),(133,(.bool (decide (x4.1.2 < 1000))))]) ⟨z,z,Am⟩<|⟨(decide (x4.1.2 < 1000)),z,z,(((((Ao hB24).then hB26).then hB29).then hB31).then hB32).below,hC56⟩
     replace hr11:=AG hr11 hc11
     refine sk 31 z z z z z<|sk 32 z z z z z<|sk 33 z z z z z<|tg 34 z z z z (CA z z)<|Aj z z<|AH z z z<|Ab<|tq 35 z z z z<|dn<|?_
     obtain rfl:=Aa hr11
     have hC57:=hC54.h0
     exact Ay (l':=[(0,u1),(133,(.bool false))]) ⟨z,z,Am⟩<|⟨false,z,z,(((((Ao hB24).then hB26).then hB29).then hB31).then hB32).below,hC57⟩
    replace hr11:=AG hr11 hc9
    refine sk 19 z z z z z<|sk 20 z z z z z<|sk 21 z z z z z<|sk 22 z z z z z<|sk 23 z z z z z<|sk 24 z z z z z<|tg 25 z z z z (CA z z)<|Aj z z<|AH z z z<|Ab<|tq 26 z z z z<|tm 27 z z z<|tn 28 z z z z z<|tg 29 z z z z (Cy z)<|Aj z z<|B2 z z<|Ab<|tn 30 z z z z z<|BE (fun hc12=>?_) (fun hc12=>?_)
    ·replace hr11:=AF hr11 hc12
     refine tg 31 z z z z (B5 A1 z z (fun w=>⟨_,Az w⟩) z)<|Aj z z<|fd A1 Az z z z z<|Ab<|oe 32 z<|Aj z z<|At hC51 2 z z AA z z<|Ab<|tg 33 z z z z (fl_lss z z)<|Aj z z<|B6 z z z<|Ab<|tg 34 z z z z (C9 z z)<|Aj z z<|AX z z z<|Ab<|tq 35 z z z z<|dn<|?_
     obtain rfl:=Aa hr11
     have hC58:=hC51.h0
     exact Ay (l':=[(0,u1),(133,(.bool (decide (x4.1.2 < 1000))))]) ⟨z,z,Am⟩<|⟨(decide (x4.1.2 < 1000)),z,z,(((Ao hB24).then hB26).then hB29).below,hC58⟩
    replace hr11:=AG hr11 hc12
    refine sk 31 z z z z z<|sk 32 z z z z z<|sk 33 z z z z z<|tg 34 z z z z (CA z z)<|Aj z z<|AH z z z<|Ab<|tq 35 z z z z<|dn<|?_
    obtain rfl:=Aa hr11
    have hC59:=hC51.h0
    exact Ay (l':=[(0,u1),(133,(.bool false))]) ⟨z,z,Am⟩<|⟨false,z,z,(((Ao hB24).then hB26).then hB29).below,hC59⟩
   rintro _ w29 ⟨x10,rfl,rfl,hB23,hC47⟩
   try dsimp only at hr9
   refine AN z (fun hc13=>?_) (fun hc13=>?_)
   ·replace hr9:=AF hr9 hc13
    refine Ad<|Ag z z<|Ab<|AL<|A7<|A7<|?_
    obtain rfl:=Aa hr9
    dsimp only at hF
    obtain rfl:=Aa hF
    exact AE z z<|⟨_,z,Bh hC47 _⟩
   replace hr9:=AG hr9 hc13
   refine AR ?_
   obtain rfl:=Aa hr9
   exact Ay (l':=[(0,u1)]) ⟨z,Am⟩<|⟨z,z,hC47⟩
  replace hr9:=AG hr9 hc6
  refine AR ?_
  obtain rfl:=Aa hr9
  have hC60:=hC15.h0
  exact Ay (l':=[(0,u1)]) ⟨z,Am⟩<|⟨z,z,hC60⟩
 rintro l2 _ w25 hs2 ⟨rfl,rfl,hC42⟩
 try dsimp only at hF
 refine Bj hs2 ?_
 clear hs2
 refine Ad<|Af z z<|be hF fun x13 hr14 hF=>A8 Tryz.call13 z z (c_S_DrawApplyChanges a1 u1 (g1.now hC42.keep) x13 hr14)<|?_
 rintro _ w39 ⟨v13,v14,v15,rfl,hB33,h4,h5,h6⟩
 have hC61:=hC42.grow hB33
 refine Af z z<|AM z z z<|AM z z z<|AM z z z<|AW hC61 zero27 z z fun b6 w40 hC62 hB34 hN6=>Ag z z<|Al (cs':=[v14,(I x13.2.1.2)]) (new:=[v14,(I x13.2.1.2)]) hC62 0 z z (fac (AP h5)<|fac z<|fa0) z Aw z z fun w41 hC63 hKp6=>?_
 try dsimp only [List.set] at hC63
 have hk29:=Ak ((Ao hB33).then hB34) (Ai (Ao hB33).size hN6) hKp6
 have hk30:=Ak (Ao hB34) hN6 hKp6
 refine Ag z z<|Ab<|Ad<|Af z z<|Ar [v14,(I x13.2.1.2)] hC63 0 z z z A9 Aw z z<|Af z z<|be hF fun x14 hr15 hF=>A8 Tryz.call14 z z (c_M_ApplyChanges x13.1 v13 (h4.now hk30) (x13.2.1.1,x13.2.1.2) v14 (h5.now hk30) x13.2.2 v15 (h6.now hk30) x14 hr15)<|?_
 rintro v16 w42 ⟨hB35,F7,hv13,hn12,hb12⟩
 have hC64:=hC63.push hB35 (A:=Ae v16 x14) hv13 hn12 hb12
 obtain ⟨v17,rfl,hC65⟩:=st27_own hC64
 refine AW hC65 zero27 z z fun b7 w43 hC66 hB36 hN7=>Al (cs':=[v17,(I x14.2)]) (new:=[v17,(I x14.2)]) hC66 0 z z (fac (AP (hC66.ro 1 z))<|fac z<|fa0) z Aw z z fun w44 hC67 hKp7=>?_
 try dsimp only [List.set] at hC67
 have hk31:=Ak ((hk29.then hB35).then hB36) (Ai (hk29.then hB35).size hN7) hKp7
 have hk32:=Ak ((hk30.then hB35).then hB36) (Ai (hk30.then hB35).size hN7) hKp7
 have hk33:=Ak ((Ao hB35).then hB36) (Ai (Ao hB35).size hN7) hKp7
 have hk34:=Ak (Ao hB36) hN7 hKp7
 refine Ab<|Ad<|Af z z<|Ar [v14,(I x13.2.1.2)] hC67 2 z z z A9 Aw z z<|Af z z<|be hF fun x15 hr16 hF=>A8 Tryz.call15 z z (c_S_ApplyChanges x13.1 v13 (h4.now hk32) (x13.2.1.1,x13.2.1.2) v14 (h5.now hk32) x13.2.2 v15 (h6.now hk32) x15 hr16)<|?_
 rintro v18 w45 ⟨hB37,F8,hv14,hn13,hb13⟩
 have hC68:=hC67.push hB37 (A:=Ae v18 x15) hv14 hn13 hb13
 obtain ⟨v19,rfl,hC69⟩:=st27_own hC68
 refine AW hC69 zero27 z z fun b8 w46 hC70 hB38 hN8=>Al (cs':=[v19,(I x15.2)]) (new:=[v19,(I x15.2)]) hC70 0 z z (fac (AP (hC70.ro 1 z))<|fac z<|fa0) z Aw z z fun w47 hC71 hKp8=>?_
 try dsimp only [List.set] at hC71
 have hk35:=Ak ((hk31.then hB37).then hB38) (Ai (hk31.then hB37).size hN8) hKp8
 have hk36:=Ak ((hk32.then hB37).then hB38) (Ai (hk32.then hB37).size hN8) hKp8
 have hk37:=Ak ((hk33.then hB37).then hB38) (Ai (hk33.then hB37).size hN8) hKp8
 have hk38:=Ak ((hk34.then hB37).then hB38) (Ai (hk34.then hB37).size hN8) hKp8
 have hk39:=Ak ((Ao hB37).then hB38) (Ai (Ao hB37).size hN8) hKp8
 have hk40:=Ak (Ao hB38) hN8 hKp8
 refine Ab<|Ad<|Af z z<|be hF fun x16 hr17 hF=>A8 Tryz.call16 z z (c_S_DrawOpenCursor a1 u1 (g1.now hC71.keep) x16 hr17)<|?_
 rintro _ w48 ⟨v20,v21,v22,v23,rfl,hq18⟩
 have hC72:Ctx [] w0 w48 [Ae v20 (x16.1:(List Int)),Ae v21 (x16.2.1:(List (Int × (List Int) × Int × Int × Int))),Ae v22 (x16.2.2.1:((List (Int × (List Int))) × Int)),Ae v23 (x16.2.2.2:(Int × (List Int))),Ac b8 [v19,(I x15.2)],Ae v19 (x15.1:(List (Int × (List Int)))),Ac b7 [v17,(I x14.2)],Ae v17 (x14.1:(List (Int × (List Int)))),Ac b6 [v14,(I x13.2.1.2)]]:=hC71.push2 hq18
 have hC73:=hC72.f2
 obtain ⟨v24,rfl,hC74⟩:=st27_own hC73
 have hC75:=hC74.f3
 obtain ⟨v25,rfl,hC76⟩:=st45_own hC75
 refine Af z z<|AM z z z<|AM z z z<|AM z z z<|AM z z z<|AW hC76 zero27 z z fun b9 w49 hC77 hB39 hN9=>AW hC77 zero45 z z fun b10 w50 hC78 hB40 hN10=>Ag z z<|Ag z z<|Al (cs':=[v24,(I x16.2.2.1.2)]) (new:=[v24,(I x16.2.2.1.2)]) hC78 1 z z (fac (AP (hC78.ro 3 z))<|fac z<|fa0) z Aw z z fun w51 hC79 hKp9=>?_
 try dsimp only [List.set] at hC79
 have hk41:=Ak (((hk35.then hq18.keep.below).then hB39).then hB40) (Ai (hk35.then hq18.keep.below).size hN9) hKp9
 have hk42:=Ak (((hk36.then hq18.keep.below).then hB39).then hB40) (Ai (hk36.then hq18.keep.below).size hN9) hKp9
 have hk43:=Ak (((hk37.then hq18.keep.below).then hB39).then hB40) (Ai (hk37.then hq18.keep.below).size hN9) hKp9
 have hk44:=Ak (((hk38.then hq18.keep.below).then hB39).then hB40) (Ai (hk38.then hq18.keep.below).size hN9) hKp9
 have hk45:=Ak (((hk39.then hq18.keep.below).then hB39).then hB40) (Ai (hk39.then hq18.keep.below).size hN9) hKp9
 have hk46:=Ak (((hk40.then hq18.keep.below).then hB39).then hB40) (Ai (hk40.then hq18.keep.below).size hN9) hKp9
 have hk47:=Ak (((Ao hq18.keep.below).then hB39).then hB40) (Ai (Ao hq18.keep.below).size hN9) hKp9
 have hk48:=Ak ((Ao hB39).then hB40) hN9 hKp9
 refine Al (cs':=[(I x16.2.2.2.1),v25]) (new:=[(I x16.2.2.2.1),v25]) hC79 0 z z (fac z<|fac (AP (hC79.ro 2 z))<|fa0) z Ba z z (fun w52 hC80 hKp10=>?_)
 try dsimp only [List.set] at hC80
 have hk49:=Ak hk41 (Ai ((hk35.then hq18.keep.below).then hB39).size hN10) hKp10
 have hk50:=Ak hk42 (Ai ((hk36.then hq18.keep.below).then hB39).size hN10) hKp10
 have hk51:=Ak hk43 (Ai ((hk37.then hq18.keep.below).then hB39).size hN10) hKp10
 have hk52:=Ak hk44 (Ai ((hk38.then hq18.keep.below).then hB39).size hN10) hKp10
 have hk53:=Ak hk45 (Ai ((hk39.then hq18.keep.below).then hB39).size hN10) hKp10
 have hk54:=Ak hk46 (Ai ((hk40.then hq18.keep.below).then hB39).size hN10) hKp10
 have hk55:=Ak hk47 (Ai ((Ao hq18.keep.below).then hB39).size hN10) hKp10
 have hk56:=Ak hk48 (Ai (Ao hB39).size hN10) hKp10
 refine Ab<|Ad<|Af z z<|Af z z<|Ar [v24,(I x16.2.2.1.2)] hC80 1 z z z A9 Aw z z<|Ar [(I x16.2.2.2.1),v25] hC80 0 z z z B8 Ba z z<|be hF fun x17 hr18 hF=>A8 Tryz.call17 z z (c_M_OpenCursor x16.1 v20 ((hC80.ro 4 z).now (Be _ _)) x16.2.1 v21 ((hC80.ro 5 z).now (Be _ _)) (x16.2.2.1.1,x16.2.2.1.2) v24 ((hC80.ro 3 z).now (Be _ _)) (x16.2.2.2.1,x16.2.2.2.2) v25 ((hC80.ro 2 z).now (Be _ _)) x17 hr18)<|?_
 rintro _ w53 ⟨hB41,v26,v27,F9,F10,rfl,hv15,hv16,hn15,hb15⟩
 obtain ⟨rfl,rfl⟩:=val_bool hv16
 have hC81:=hC80.pushL hB41 (Bs:=[Ae v26 x17.1]) (Fs:=[F9]) ⟨F9,_,z,hv15,z⟩ (by simpa using hn15) (fun b h=>hb15 b (by simpa using h))
 obtain ⟨v28,rfl,hC82⟩:=st49_own hC81
 refine Af z z<|AM z z z<|AM z z z<|AW hC82 zero49 z z fun b11 w54 hC83 hB42 hN11=>Al (cs':=[(I x17.1.1.1),v28,(I x17.1.2.1),(I x17.1.2.2)]) (new:=[(I x17.1.1.1),v28,(I x17.1.2.1),(I x17.1.2.2)]) hC83 0 z z (fac z<|fac (AP (hC83.ro 1 z))<|fac z<|fac z<|fa0) z A5 z z fun w55 hC84 hKp11=>?_
 try dsimp only [List.set] at hC84
 have hk57:=Ak ((hk49.then hB41).then hB42) (Ai (hk49.then hB41).size hN11) hKp11
 have hk58:=Ak ((hk50.then hB41).then hB42) (Ai (hk50.then hB41).size hN11) hKp11
 have hk59:=Ak ((hk51.then hB41).then hB42) (Ai (hk51.then hB41).size hN11) hKp11
 have hk60:=Ak ((hk52.then hB41).then hB42) (Ai (hk52.then hB41).size hN11) hKp11
 have hk61:=Ak ((hk53.then hB41).then hB42) (Ai (hk53.then hB41).size hN11) hKp11
 have hk62:=Ak ((hk54.then hB41).then hB42) (Ai (hk54.then hB41).size hN11) hKp11
 have hk63:=Ak ((hk55.then hB41).then hB42) (Ai (hk55.then hB41).size hN11) hKp11
 have hk64:=Ak ((hk56.then hB41).then hB42) (Ai (hk56.then hB41).size hN11) hKp11
 have hk65:=Ak ((Ao hB41).then hB42) (Ai (Ao hB41).size hN11) hKp11
 have hk66:=Ak (Ao hB42) hN11 hKp11
 refine Ag z z<|Ab<|Ad<|Af z z<|Af z z<|Ar [v24,(I x16.2.2.1.2)] hC84 3 z z z A9 Aw z z<|Ar [(I x16.2.2.2.1),v25] hC84 2 z z z B8 Ba z z<|be hF fun x18 hr19 hF=>A8 C6 z z (c_S_OpenCursor x16.1 v20 ((hC84.ro 6 z).now (Be _ _)) x16.2.1 v21 ((hC84.ro 7 z).now (Be _ _)) (x16.2.2.1.1,x16.2.2.1.2) v24 ((hC84.ro 5 z).now (Be _ _)) (x16.2.2.2.1,x16.2.2.2.2) v25 ((hC84.ro 4 z).now (Be _ _)) x18 hr19)<|?_
 rintro _ w56 ⟨hB43,v29,v30,F11,F12,rfl,hv17,hv18,hn16,hb16⟩
 obtain ⟨rfl,rfl⟩:=val_bool hv18
 have hC85:=hC84.pushL hB43 (Bs:=[Ae v29 x18.1]) (Fs:=[F11]) ⟨F11,_,z,hv17,z⟩ (by simpa using hn16) (fun b h=>hb16 b (by simpa using h))
 obtain ⟨v31,rfl,hC86⟩:=st49_own hC85
 refine Af z z<|AM z z z<|AM z z z<|AW hC86 zero49 z z fun b12 w57 hC87 hB44 hN12=>Al (cs':=[(I x18.1.1.1),v31,(I x18.1.2.1),(I x18.1.2.2)]) (new:=[(I x18.1.1.1),v31,(I x18.1.2.1),(I x18.1.2.2)]) hC87 0 z z (fac z<|fac (AP (hC87.ro 1 z))<|fac z<|fac z<|fa0) z A5 z z fun w58 hC88 hKp12=>?_
 try dsimp only [List.set] at hC88
 have hk67:=Ak ((hk57.then hB43).then hB44) (Ai (hk57.then hB43).size hN12) hKp12
 have hk68:=Ak ((hk58.then hB43).then hB44) (Ai (hk58.then hB43).size hN12) hKp12
 have hk69:=Ak ((hk59.then hB43).then hB44) (Ai (hk59.then hB43).size hN12) hKp12
 have hk70:=Ak ((hk60.then hB43).then hB44) (Ai (hk60.then hB43).size hN12) hKp12
 have hk71:=Ak ((hk61.then hB43).then hB44) (Ai (hk61.then hB43).size hN12) hKp12
 have hk72:=Ak ((hk62.then hB43).then hB44) (Ai (hk62.then hB43).size hN12) hKp12
 have hk73:=Ak ((hk63.then hB43).then hB44) (Ai (hk63.then hB43).size hN12) hKp12
 have hk74:=Ak ((hk64.then hB43).then hB44) (Ai (hk64.then hB43).size hN12) hKp12
 have hk75:=Ak ((hk65.then hB43).then hB44) (Ai (hk65.then hB43).size hN12) hKp12
 have hk76:=Ak ((hk66.then hB43).then hB44) (Ai (hk66.then hB43).size hN12) hKp12
 have hk77:=Ak ((Ao hB43).then hB44) (Ai (Ao hB43).size hN12) hKp12
 have hk78:=Ak (Ao hB44) hN12 hKp12
 refine Ag z z<|Ab<|Ad<|Af z z<|be hF fun x19 hr20 hF=>A8 Tryz.call19 z z (c_S_DrawNextPage a1 u1 (g1.now hC88.keep) x19 hr20)<|?_
 rintro _ w59 ⟨v32,v33,v34,v35,rfl,hq19⟩
 have hC89:Ctx [] w0 w59 [Ae v32 (x19.1:(List Int)),Ae v33 (x19.2.1:(List (Int × (List Int) × Int × Int × Int))),Ae v34 (x19.2.2.1:((List (Int × (List Int))) × Int)),Ae v35 (x19.2.2.2.1:((Int × (List Int)) × Int × Int)),Ac b12 [(I x18.1.1.1),v31,(I x18.1.2.1),(I x18.1.2.2)],Ae v31 (x18.1.1.2:(List Int)),Ac b11 [(I x17.1.1.1),v28,(I x17.1.2.1),(I x17.1.2.2)],Ae v28 (x17.1.1.2:(List Int)),Ac b10 [(I x16.2.2.2.1),v25],Ac b9 [v24,(I x16.2.2.1.2)],Ae v25 (x16.2.2.2.2:(List Int)),Ae v24 (x16.2.2.1.1:(List (Int × (List Int)))),Ae v20 (x16.1:(List Int)),Ae v21 (x16.2.1:(List (Int × (List Int) × Int × Int × Int))),Ac b8 [v19,(I x15.2)],Ae v19 (x15.1:(List (Int × (List Int)))),Ac b7 [v17,(I x14.2)],Ae v17 (x14.1:(List (Int × (List Int)))),Ac b6 [v14,(I x13.2.1.2)]]:=hC88.push2 hq19
 have hC90:=hC89.f2
 obtain ⟨v36,rfl,hC91⟩:=st27_own hC90
 have hC92:=hC91.f3
 obtain ⟨v37,rfl,hC93⟩:=st49_own hC92
 refine Af z z<|AM z z z<|AM z z z<|AM z z z<|AM z z z<|AM z z z<|AW hC93 zero27 z z fun b13 w60 hC94 hB45 hN13=>AW hC94 zero49 z z fun b14 w61 hC95 hB46 hN14=>Ag z z<|Ag z z<|Al (cs':=[v36,(I x19.2.2.1.2)]) (new:=[v36,(I x19.2.2.1.2)]) hC95 1 z z (fac (AP (hC95.ro 3 z))<|fac z<|fa0) z Aw z z fun w62 hC96 hKp13=>?_
 try dsimp only [List.set] at hC96
 have hk79:=Ak (((hk67.then hq19.keep.below).then hB45).then hB46) (Ai (hk67.then hq19.keep.below).size hN13) hKp13
 have hk80:=Ak (((hk68.then hq19.keep.below).then hB45).then hB46) (Ai (hk68.then hq19.keep.below).size hN13) hKp13
 have hk81:=Ak (((hk69.then hq19.keep.below).then hB45).then hB46) (Ai (hk69.then hq19.keep.below).size hN13) hKp13
 have hk82:=Ak (((hk70.then hq19.keep.below).then hB45).then hB46) (Ai (hk70.then hq19.keep.below).size hN13) hKp13
 have hk83:=Ak (((hk71.then hq19.keep.below).then hB45).then hB46) (Ai (hk71.then hq19.keep.below).size hN13) hKp13
 have hk84:=Ak (((hk72.then hq19.keep.below).then hB45).then hB46) (Ai (hk72.then hq19.keep.below).size hN13) hKp13
 have hk85:=Ak (((hk73.then hq19.keep.below).then hB45).then hB46) (Ai (hk73.then hq19.keep.below).size hN13) hKp13
 have hk86:=Ak (((hk74.then hq19.keep.below).then hB45).then hB46) (Ai (hk74.then hq19.keep.below).size hN13) hKp13
 have hk87:=Ak (((hk75.then hq19.keep.below).then hB45).then hB46) (Ai (hk75.then hq19.keep.below).size hN13) hKp13
 have hk88:=Ak (((hk76.then hq19.keep.below).then hB45).then hB46) (Ai (hk76.then hq19.keep.below).size hN13) hKp13
 have hk89:=Ak (((hk77.then hq19.keep.below).then hB45).then hB46) (Ai (hk77.then hq19.keep.below).size hN13) hKp13
 have hk90:=Ak (((hk78.then hq19.keep.below).then hB45).then hB46) (Ai (hk78.then hq19.keep.below).size hN13) hKp13
 have hk91:=Ak (((Ao hq19.keep.below).then hB45).then hB46) (Ai (Ao hq19.keep.below).size hN13) hKp13
 have hk92:=Ak ((Ao hB45).then hB46) hN13 hKp13
 refine Al (cs':=[(I x19.2.2.2.1.1.1),v37,(I x19.2.2.2.1.2.1),(I x19.2.2.2.1.2.2)]) (new:=[(I x19.2.2.2.1.1.1),v37,(I x19.2.2.2.1.2.1),(I x19.2.2.2.1.2.2)]) hC96 0 z z (fac z<|fac (AP (hC96.ro 2 z))<|fac z<|fac z<|fa0) z A5 z z (fun w63 hC97 hKp14=>?_)
 try dsimp only [List.set] at hC97
 have hk93:=Ak hk79 (Ai ((hk67.then hq19.keep.below).then hB45).size hN14) hKp14
 have hk94:=Ak hk80 (Ai ((hk68.then hq19.keep.below).then hB45).size hN14) hKp14
 have hk95:=Ak hk81 (Ai ((hk69.then hq19.keep.below).then hB45).size hN14) hKp14
 have hk96:=Ak hk82 (Ai ((hk70.then hq19.keep.below).then hB45).size hN14) hKp14
 have hk97:=Ak hk83 (Ai ((hk71.then hq19.keep.below).then hB45).size hN14) hKp14
 have hk98:=Ak hk84 (Ai ((hk72.then hq19.keep.below).then hB45).size hN14) hKp14
 have hk99:=Ak hk85 (Ai ((hk73.then hq19.keep.below).then hB45).size hN14) hKp14
 have hk100:=Ak hk86 (Ai ((hk74.then hq19.keep.below).then hB45).size hN14) hKp14
 have hk101:=Ak hk87 (Ai ((hk75.then hq19.keep.below).then hB45).size hN14) hKp14
 have hk102:=Ak hk88 (Ai ((hk76.then hq19.keep.below).then hB45).size hN14) hKp14
 have hk103:=Ak hk89 (Ai ((hk77.then hq19.keep.below).then hB45).size hN14) hKp14
 have hk104:=Ak hk90 (Ai ((hk78.then hq19.keep.below).then hB45).size hN14) hKp14
 have hk105:=Ak hk91 (Ai ((Ao hq19.keep.below).then hB45).size hN14) hKp14
 have hk106:=Ak hk92 (Ai (Ao hB45).size hN14) hKp14
 refine Ag z z<|Ab<|Ad<|Af z z<|Af z z<|Ar [v36,(I x19.2.2.1.2)] hC97 1 z z z A9 Aw z z<|Ar [(I x19.2.2.2.1.1.1),v37,(I x19.2.2.2.1.2.1),(I x19.2.2.2.1.2.2)] hC97 0 z z z Bg A5 z z<|Af z z<|be hF fun x20 hr21 hF=>A8 Tryz.call20 z z (c_M_NextPage x19.1 v32 ((hC97.ro 4 z).now (Be _ _)) x19.2.1 v33 ((hC97.ro 5 z).now (Be _ _)) (x19.2.2.1.1,x19.2.2.1.2) v36 ((hC97.ro 3 z).now (Be _ _)) ((x19.2.2.2.1.1.1,x19.2.2.2.1.1.2),x19.2.2.2.1.2.1,x19.2.2.2.1.2.2) v37 ((hC97.ro 2 z).now (Be _ _)) x19.2.2.2.2 x20 hr21)<|?_
 rintro _ w65 ⟨hB47,v38,v39,v40,F13,F14,F15,rfl,hv19,hv20,hv21,hn18,hb18⟩
 obtain ⟨rfl,rfl⟩:=val_int hv21
 have hC98:=hC97.pushL hB47 (Bs:=[Ae v38 x20.1,Ae v39 x20.2.1]) (Fs:=[F13,F14]) ⟨F13,_,z,hv19,F14,_,z,hv20,z⟩ (by simpa using hn18) (fun b h=>hb18 b (by simpa using h))
 have hC99:=hC98.f1
 obtain ⟨v41,rfl,hC100⟩:=st49_own hC99
 refine Af z z<|AM z z z<|AM z z z<|AM z z z<|AW hC100 zero49 z z fun b15 w66 hC101 hB48 hN15=>Ag z z<|Al (cs':=[(I x20.2.1.1.1),v41,(I x20.2.1.2.1),(I x20.2.1.2.2)]) (new:=[(I x20.2.1.1.1),v41,(I x20.2.1.2.1),(I x20.2.1.2.2)]) hC101 0 z z (fac z<|fac (AP (hC101.ro 1 z))<|fac z<|fac z<|fa0) z A5 z z fun w67 hC102 hKp15=>?_
 try dsimp only [List.set] at hC102
 have hk107:=Ak ((hk93.then hB47).then hB48) (Ai (hk93.then hB47).size hN15) hKp15
 have hk108:=Ak ((hk94.then hB47).then hB48) (Ai (hk94.then hB47).size hN15) hKp15
 have hk109:=Ak ((hk95.then hB47).then hB48) (Ai (hk95.then hB47).size hN15) hKp15
 have hk110:=Ak ((hk96.then hB47).then hB48) (Ai (hk96.then hB47).size hN15) hKp15
 have hk111:=Ak ((hk97.then hB47).then hB48) (Ai (hk97.then hB47).size hN15) hKp15
 have hk112:=Ak ((hk98.then hB47).then hB48) (Ai (hk98.then hB47).size hN15) hKp15
 have hk113:=Ak ((hk99.then hB47).then hB48) (Ai (hk99.then hB47).size hN15) hKp15
 have hk114:=Ak ((hk100.then hB47).then hB48) (Ai (hk100.then hB47).size hN15) hKp15
 have hk115:=Ak ((hk101.then hB47).then hB48) (Ai (hk101.then hB47).size hN15) hKp15
 have hk116:=Ak ((hk102.then hB47).then hB48) (Ai (hk102.then hB47).size hN15) hKp15
 have hk117:=Ak ((hk103.then hB47).then hB48) (Ai (hk103.then hB47).size hN15) hKp15
 have hk118:=Ak ((hk104.then hB47).then hB48) (Ai (hk104.then hB47).size hN15) hKp15
 have hk119:=Ak ((hk105.then hB47).then hB48) (Ai (hk105.then hB47).size hN15) hKp15
 have hk120:=Ak ((hk106.then hB47).then hB48) (Ai (hk106.then hB47).size hN15) hKp15
 have hk121:=Ak ((Ao hB47).then hB48) (Ai (Ao hB47).size hN15) hKp15
 have hk122:=Ak (Ao hB48) hN15 hKp15
 refine Ag z z<|Ab<|Ad<|Af z z<|Af z z<|Ar [v36,(I x19.2.2.1.2)] hC102 4 z z z A9 Aw z z<|Ar [(I x19.2.2.2.1.1.1),v37,(I x19.2.2.2.1.2.1),(I x19.2.2.2.1.2.2)] hC102 3 z z z Bg A5 z z<|Af z z<|be hF fun x21 hr22 hF=>A8 Tryz.call21 z z (c_S_NextPage x19.1 v32 ((hC102.ro 7 z).now (Be _ _)) x19.2.1 v33 ((hC102.ro 8 z).now (Be _ _)) (x19.2.2.1.1,x19.2.2.1.2) v36 ((hC102.ro 6 z).now (Be _ _)) ((x19.2.2.2.1.1.1,x19.2.2.2.1.1.2),x19.2.2.2.1.2.1,x19.2.2.2.1.2.2) v37 ((hC102.ro 5 z).now (Be _ _)) x19.2.2.2.2 x21 hr22)<|?_
 rintro _ w68 ⟨hB49,v42,v43,v44,F16,F17,F18,rfl,hv22,hv23,hv24,hn19,hb19⟩
 obtain ⟨rfl,rfl⟩:=val_int hv24
 have hC103:=hC102.pushL hB49 (Bs:=[Ae v42 x21.1,Ae v43 x21.2.1]) (Fs:=[F16,F17]) ⟨F16,_,z,hv22,F17,_,z,hv23,z⟩ (by simpa using hn19) (fun b h=>hb19 b (by simpa using h))
 have hC104:=hC103.f1
 obtain ⟨v45,rfl,hC105⟩:=st49_own hC104
 refine Af z z<|AM z z z<|AM z z z<|AM z z z<|AW hC105 zero49 z z fun b16 w69 hC106 hB50 hN16=>Ag z z<|Al (cs':=[(I x21.2.1.1.1),v45,(I x21.2.1.2.1),(I x21.2.1.2.2)]) (new:=[(I x21.2.1.1.1),v45,(I x21.2.1.2.1),(I x21.2.1.2.2)]) hC106 0 z z (fac z<|fac (AP (hC106.ro 1 z))<|fac z<|fac z<|fa0) z A5 z z fun w70 hC107 hKp16=>?_
 try dsimp only [List.set] at hC107
 have hk123:=Ak ((hk107.then hB49).then hB50) (Ai (hk107.then hB49).size hN16) hKp16
 have hk124:=Ak ((hk108.then hB49).then hB50) (Ai (hk108.then hB49).size hN16) hKp16
 have hk125:=Ak ((hk109.then hB49).then hB50) (Ai (hk109.then hB49).size hN16) hKp16
 have hk126:=Ak ((hk110.then hB49).then hB50) (Ai (hk110.then hB49).size hN16) hKp16
 have hk127:=Ak ((hk111.then hB49).then hB50) (Ai (hk111.then hB49).size hN16) hKp16
 have hk128:=Ak ((hk112.then hB49).then hB50) (Ai (hk112.then hB49).size hN16) hKp16
 have hk129:=Ak ((hk113.then hB49).then hB50) (Ai (hk113.then hB49).size hN16) hKp16
 have hk130:=Ak ((hk114.then hB49).then hB50) (Ai (hk114.then hB49).size hN16) hKp16
 have hk131:=Ak ((hk115.then hB49).then hB50) (Ai (hk115.then hB49).size hN16) hKp16
 have hk132:=Ak ((hk116.then hB49).then hB50) (Ai (hk116.then hB49).size hN16) hKp16
 have hk133:=Ak ((hk117.then hB49).then hB50) (Ai (hk117.then hB49).size hN16) hKp16
 have hk134:=Ak ((hk118.then hB49).then hB50) (Ai (hk118.then hB49).size hN16) hKp16
 have hk135:=Ak ((hk119.then hB49).then hB50) (Ai (hk119.then hB49).size hN16) hKp16
 have hk136:=Ak ((hk120.then hB49).then hB50) (Ai (hk120.then hB49).size hN16) hKp16
 have hk137:=Ak ((hk121.then hB49).then hB50) (Ai (hk121.then hB49).size hN16) hKp16
 have hk138:=Ak ((hk122.then hB49).then hB50) (Ai (hk122.then hB49).size hN16) hKp16
 have hk139:=Ak ((Ao hB49).then hB50) (Ai (Ao hB49).size hN16) hKp16
 have hk140:=Ak (Ao hB50) hN16 hKp16
 refine Ag z z<|Ab<|be hF fun r4 hr23 hF=>BP (fun l w=>∃x22:Bool,x22=r4∧l=[(2,(.bool x22))]∧Below w70.heap.size w70 w∧Ctx [] w0 w []) ?_ ?_
 ·refine Bt<|fd A1 AV z z z z<|At hC107 24 z z Bq z z<|fd A1 AV z z z z<|At hC107 22 z z Bq z z<|be hr23 fun x23 hr24 hr23=>cb CU z z (c_S_SameFacts x14.1 v17 ((hC107.ro 25 z).now (Be _ _)) x15.1 v19 ((hC107.ro 23 z).now (Be _ _)) x23 hr24) fun w72 hB52=>have hC109:=hC107.grow hB52;Af z z<|B3 (fun hc14=>?_) (fun hc14=>?_)
  ·replace hr23:=AF hr23 hc14
   refine Aj z z<|fd A1 Az z z z z<|Aj z z<|At hC109 24 z z AA z z<|Aj z z<|fd A1 Az z z z z<|Aj z z<|At hC109 22 z z AA z z<|Aj z z<|BO z z z<|AX z z z<|Af z z<|B3 (fun hc15=>?_) (fun hc15=>?_)
   ·replace hr23:=AF hr23 hc15
    refine Aj z z<|Af z z<|Aj z z<|Af z z<|Aj z z<|WL_bool_eql BK z z z<|AX z z z<|Af z z<|B3 (fun hc16=>?_) (fun hc16=>?_)
    ·replace hr23:=AF hr23 hc16
     refine Aj z z<|fd AZ Az z z z z<|Aj z z<|At hC109 14 z z AA z z<|Aj z z<|fd AZ Az z z z z<|Aj z z<|At hC109 12 z z AA z z<|Aj z z<|BO z z z<|AX z z z<|Af z z<|B3 (fun hc17=>?_) (fun hc17=>?_)
     ·replace hr23:=AF hr23 hc17
      refine Aj z z<|fd AZ Az z z z z<|Aj z z<|At hC109 14 z z AA z z<|Aj z z<|fd AZ Az z z z z<|Aj z z<|At hC109 12 z z AA z z<|Aj z z<|BO z z z<|AX z z z<|Af z z<|B3 (fun hc18=>?_) (fun hc18=>?_)
      ·replace hr23:=AF hr23 hc18
       refine Aj z z<|Af z z<|Aj z z<|Af z z<|Aj z z<|BO z z z<|AX z z z<|Af z z<|B3 (fun hc19=>?_) (fun hc19=>?_)
       ·replace hr23:=AF hr23 hc19
        refine Aj z z<|Af z z<|Aj z z<|Af z z<|be hr23 fun x24 hr25 hr23=>Aj z z<|cb CU z z (c_S_SameFacts x20.1 v38 ((hC109.ro 5 z).now (Be _ _)) x21.1 v42 ((hC109.ro 2 z).now (Be _ _)) x24 hr25) fun w73 hB53=>have hC110:=hC109.grow hB53;AX z z z<|Af z z<|B3 (fun hc20=>?_) (fun hc20=>?_)
        ·replace hr23:=AF hr23 hc20
         refine Aj z z<|fd AZ Az z z z z<|Aj z z<|At hC110 3 z z AA z z<|Aj z z<|fd AZ Az z z z z<|Aj z z<|At hC110 0 z z AA z z<|Aj z z<|BO z z z<|AX z z z<|Af z z<|B3 (fun hc21=>?_) (fun hc21=>?_)
         ·replace hr23:=AF hr23 hc21
          refine Aj z z<|fd AZ Az z z z z<|Aj z z<|At hC110 3 z z AA z z<|Aj z z<|fd AZ Az z z z z<|Aj z z<|At hC110 0 z z AA z z<|Aj z z<|BO z z z<|AX z z z<|Ag z z<|Ab<|?_
          obtain rfl:=Aa hr23
          have hC111:=hC110.h0
          exact Ay (l':=[(2,(.bool (decide (x20.2.1.2.2=x21.2.1.2.2))))]) ⟨z,Am⟩<|⟨(decide (x20.2.1.2.2=x21.2.1.2.2)),z,z,((Ao hB52).then hB53).below,hC111⟩
         replace hr23:=AG hr23 hc21
         refine gs z z z z<|gs z z z z<|gs z z z z<|gs z z z z<|gs z z z z<|AH z z z<|Ag z z<|Ab<|?_
         obtain rfl:=Aa hr23
         have hC112:=hC110.h0
         exact Ay (l':=[(2,(.bool false))]) ⟨z,Am⟩<|⟨false,z,z,((Ao hB52).then hB53).below,hC112⟩
        replace hr23:=AG hr23 hc20
        refine gs z z z z<|gs z z z z<|gs z z z z<|gs z z z z<|gs z z z z<|AH z z z<|Af z z<|gs z z z z<|gs z z z z<|gs z z z z<|gs z z z z<|gs z z z z<|AH z z z<|Ag z z<|Ab<|?_
        obtain rfl:=Aa hr23
        have hC113:=hC110.h0
        exact Ay (l':=[(2,(.bool false))]) ⟨z,Am⟩<|⟨false,z,z,((Ao hB52).then hB53).below,hC113⟩
       replace hr23:=AG hr23 hc19
       refine gs z z z z<|gs z z z z<|gs z z z z<|AH z z z<|Af z z<|gs z z z z<|gs z z z z<|gs z z z z<|gs z z z z<|gs z z z z<|AH z z z<|Af z z<|gs z z z z<|gs z z z z<|gs z z z z<|gs z z z z<|gs z z z z<|AH z z z<|Ag z z<|Ab<|?_
       obtain rfl:=Aa hr23
       have hC114:=hC109.h0
       exact Ay (l':=[(2,(.bool false))]) ⟨z,Am⟩<|⟨false,z,z,(Ao hB52).below,hC114⟩
      replace hr23:=AG hr23 hc18
      refine gs z z z z<|gs z z z z<|gs z z z z<|AH z z z<|Af z z<|gs z z z z<|gs z z z z<|gs z z z z<|AH z z z<|Af z z<|gs z z z z<|gs z z z z<|gs z z z z<|gs z z z z<|gs z z z z<|AH z z z<|Af z z<|gs z z z z<|gs z z z z<|gs z z z z<|gs z z z z<|gs z z z z<|AH z z z<|Ag z z<|Ab<|?_
      obtain rfl:=Aa hr23
      have hC115:=hC109.h0
      exact Ay (l':=[(2,(.bool false))]) ⟨z,Am⟩<|⟨false,z,z,(Ao hB52).below,hC115⟩
     replace hr23:=AG hr23 hc17
     refine gs z z z z<|gs z z z z<|gs z z z z<|gs z z z z<|gs z z z z<|AH z z z<|Af z z<|gs z z z z<|gs z z z z<|gs z z z z<|AH z z z<|Af z z<|gs z z z z<|gs z z z z<|gs z z z z<|AH z z z<|Af z z<|gs z z z z<|gs z z z z<|gs z z z z<|gs z z z z<|gs z z z z<|AH z z z<|Af z z<|gs z z z z<|gs z z z z<|gs z z z z<|gs z z z z<|gs z z z z<|AH z z z<|Ag z z<|Ab<|?_
     obtain rfl:=Aa hr23
     have hC116:=hC109.h0
     exact Ay (l':=[(2,(.bool false))]) ⟨z,Am⟩<|⟨false,z,z,(Ao hB52).below,hC116⟩
    replace hr23:=AG hr23 hc16
    refine gs z z z z<|gs z z z z<|gs z z z z<|gs z z z z<|gs z z z z<|AH z z z<|Af z z<|gs z z z z<|gs z z z z<|gs z z z z<|gs z z z z<|gs z z z z<|AH z z z<|Af z z<|gs z z z z<|gs z z z z<|gs z z z z<|AH z z z<|Af z z<|gs z z z z<|gs z z z z<|gs z z z z<|AH z z z<|Af z z<|gs z z z z<|gs z z z z<|gs z z z z<|gs z z z z<|gs z z z z<|AH z z z<|Af z z<|gs z z z z<|gs z z z z<|gs z z z z<|gs z z z z<|gs z z z z<|AH z z z<|Ag z z<|Ab<|?_
    obtain rfl:=Aa hr23
    have hC117:=hC109.h0
    exact Ay (l':=[(2,(.bool false))]) ⟨z,Am⟩<|⟨false,z,z,(Ao hB52).below,hC117⟩
   replace hr23:=AG hr23 hc15
   refine gs z z z z<|gs z z z z<|gs z z z z<|AH z z z<|Af z z<|gs z z z z<|gs z z z z<|gs z z z z<|gs z z z z<|gs z z z z<|AH z z z<|Af z z<|gs z z z z<|gs z z z z<|gs z z z z<|gs z z z z<|gs z z z z<|AH z z z<|Af z z<|gs z z z z<|gs z z z z<|gs z z z z<|AH z z z<|Af z z<|gs z z z z<|gs z z z z<|gs z z z z<|AH z z z<|Af z z<|gs z z z z<|gs z z z z<|gs z z z z<|gs z z z z<|gs z z z z<|AH z z z<|Af z z<|gs z z z z<|gs z z z z<|gs z z z z<|gs z z z z<|gs z z z z<|AH z z z<|Ag z z<|Ab<|?_
   obtain rfl:=Aa hr23
   have hC118:=hC109.h0
   exact Ay (l':=[(2,(.bool false))]) ⟨z,Am⟩<|⟨false,z,z,(Ao hB52).below,hC118⟩
  replace hr23:=AG hr23 hc14
  refine gs z z z z<|gs z z z z<|gs z z z z<|gs z z z z<|gs z z z z<|AH z z z<|Af z z<|gs z z z z<|gs z z z z<|gs z z z z<|AH z z z<|Af z z<|gs z z z z<|gs z z z z<|gs z z z z<|gs z z z z<|gs z z z z<|AH z z z<|Af z z<|gs z z z z<|gs z z z z<|gs z z z z<|gs z z z z<|gs z z z z<|AH z z z<|Af z z<|gs z z z z<|gs z z z z<|gs z z z z<|AH z z z<|Af z z<|gs z z z z<|gs z z z z<|gs z z z z<|AH z z z<|Af z z<|gs z z z z<|gs z z z z<|gs z z z z<|gs z z z z<|gs z z z z<|AH z z z<|Af z z<|gs z z z z<|gs z z z z<|gs z z z z<|gs z z z z<|gs z z z z<|AH z z z<|Ag z z<|Ab<|?_
  obtain rfl:=Aa hr23
  have hC119:=hC109.h0
  exact Ay (l':=[(2,(.bool false))]) ⟨z,Am⟩<|⟨false,z,z,(Ao hB52).below,hC119⟩
 rintro _ w71 ⟨x22,rfl,rfl,hB51,hC108⟩
 try dsimp only at hF
 refine AL ?_
 obtain rfl:=Aa hF
 exact AE z z<|⟨_,z,Bh hC108 _⟩
end Go.Gx.Px
