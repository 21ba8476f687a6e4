/- The contracts of the Go functions against the pure functions, printed by program. Conditions: each says them. -/
import Derived.Test.YtpjmmbipjddilaaGreatC4
set_option linter.unusedVariables false
set_option linter.unusedSimpArgs false
set_option maxRecDepth 100000
set_option maxHeartbeats 4000000
namespace Go.Gx.Px
open Go.Proofs Go.RowKit
open K9
theorem c_S_OpenCursor {w0:World} (a1:(List Int)) (u1:Value) (g1:RO [] w0 u1 a1) (a2:(List (Int × (List Int) × Int × Int × Int))) (u2:Value) (g2:RO [] w0 u2 a2) (a3:((List (Int × (List Int))) × Int)) (u3:Value) (g3:RO [] w0 u3 a3.1) (a4:(Int × (List Int))) (u4:Value) (g4:RO [] w0 u4 a4.2) (rr:(((Int × (List Int)) × Int × Int) × Bool)) (hF:S.OpenCursor a1 a2 a3 a4=some rr) :
 Calls Tryz.prog 18 [u1,u2,(.agg #[u3,(I a3.2)]),(.agg #[(I a4.1),u4])].toArray w0 fun e w'=>∃v,e=.returned v∧Res2 w0 rr.1 rr.2 v w':=by
 refine A3 Tryz.func18 z z ?_
 have hC0:=AH w0
 unfold S.OpenCursor at hF
 refine Ad<|Bz (cs:=[u3,(I a3.2)]) hC0 z z z fun b1 w1 hC1 hB1 hN1=>Bz (cs:=[(I a4.1),u4]) hC1 z z z fun b2 w2 hC2 hB2 hN2=>Bd hC2 zero49 z z fun b3 w3 hC3 hB3 hN3=>Af z z<|Ab<|AA<|be hF fun r1 hr1 hF=>BL (fun l w=>∃x1:Bool,x1=r1∧l=[(6,(ptr b1 0)),(7,(ptr b2 0)),(8,(ptr b3 0)),(20,(.bool x1))]∧Below w3.heap.size w3 w∧Ctx [] w0 w [Ac b3 [(I 0),(.slice none 0 0),(I 0),(I 0)],Ac b2 [(I a4.1),u4],Ac b1 [u3,(I a3.2)]]) ?_ ?_
 ·refine Bt<|Ae z z<|At [u3,(I a3.2)] hC3 2 z z z A8 Az z z<|be hr1 fun x2 hr2 hr1=>cb Tryz.call11 z z (c_S_IsSource a1 u1 (g1.now hC3.keep) (a3.1,a3.2) u3 (g3.now hC3.keep) x2 hr2) fun w5 hB5=>have hC5:=hC3.grow hB5;B2 z z<|Ae z z<|B3 (fun hc1=>?_) (fun hc1=>?_)
  ·replace hr1:=AD hr1 hc1
   refine gs z z z z<|gs z z z z<|gs z z z z<|gs z z z z<|gs z z z z<|AI z z z<|Ab<|?_
   obtain rfl:=Aa hr1
   exact Ay (l':=[(6,(ptr b1 0)),(7,(ptr b2 0)),(8,(ptr b3 0)),(20,(.bool true))]) ⟨z,z,z,z,Ak⟩<|⟨true,z,z,(Al hB5).below,hC5⟩
  replace hr1:=AE hr1 hc1
  refine Ai z z<|Ae z z<|Ai z z<|Ae z z<|Ai z z<|At [(I a4.1),u4] hC5 1 z z z Bl A9 z z<|be hr1 fun x3 hr3 hr1=>Ai z z<|cb Tryz.call52 z z (c_S_IsAccess a1 u1 (g1.now hC5.keep) a2 u2 (g2.now hC5.keep) (a4.1,a4.2) u4 (g4.now hC5.keep) x3 hr3) fun w6 hB6=>have hC6:=hC5.grow hB6;Ai z z<|B2 z z<|AY z z z<|Ab<|?_
  obtain rfl:=Aa hr1
  exact Ay (l':=[(6,(ptr b1 0)),(7,(ptr b2 0)),(8,(ptr b3 0)),(20,(.bool (!x3)))]) ⟨z,z,z,z,Ak⟩<|⟨(!x3),z,z,((Al hB5).then hB6).below,hC6⟩
 rintro _ w4 ⟨x1,rfl,rfl,hB4,hC4⟩
 try dsimp only at hF
 refine AL z (fun hc2=>?_) (fun hc2=>?_)
 ·replace hF:=AD hF hc2
  refine Ad<|BD (vs:=[]) z z z built49<|Aj (cs':=[(I 0),(.slice none 0 0),(I 0),(I 0)]) (new:=[(I 0),(.slice none 0 0),(I 0),(I 0)]) hC4 0 z z (fac z<|fac z<|fac z<|fac z<|fa0) z AC z z fun w7 hC7 hKp1=>?_
  try dsimp only [List.set] at hC7
  have hk1:=Ar ((((Al hB1).then hB2).then hB3).then hB4) (Ao ((Al hB1).then hB2).size hN3) hKp1
  have hk2:=Ar (((Al hB2).then hB3).then hB4) (Ao (Al hB2).size hN3) hKp1
  have hk3:=Ar ((Al hB3).then hB4) hN3 hKp1
  refine Af z z<|Ab<|AK<|A2<|?_
  obtain rfl:=Aa hF
  refine BZ z (rv_cell_agg (cs':=[(I 0),(.slice none 0 0),(I 0),(I 0)]) hC7 (i:=0) z z z Bp AC z) (rv_tmp z) ?_
  have hC8:=hC7.triv (Ck (false))
  have hC10:=hC8.triv (nil_val (α:=Int))
  have hC9:=BW 0 (.slice none 0 0) ([]) 0 0 hC10
  exact ⟨_,z,res2_of hC9⟩
 replace hF:=AE hF hc2
 refine AM<|Av<|AA<|W_drawn 10 z hmix fun w9 hB7=>have hC11:=hC4.grow hB7;tf 0 AV Ax z z z z z<|tf 2 AV A4 z z z z z<|tf 5 A5 Ax z z z z z<|be hF fun x4 hr4 hF=>wAS (l':=[(6,(ptr b1 0)),(7,(ptr b2 0)),(8,(ptr b3 0)),(20,(.bool x1)),(22,(ptr b2 0)),(24,(ptr b2 1)),(27,(ptr b1 1))]) ⟨z,z,z,z,z,z,z,Ak⟩<|Bq [⟨1,[],fun vs=>AR (I a4.1),[]⟩,⟨3,[],fun vs=>AR u4,[]⟩,⟨4,[],fun vs=>Cv x4,[]⟩,⟨6,[],fun vs=>AR (I a3.2),[]⟩] [[],[],[1,3],[]] 3 z (by kernel_rfl) (by kernel_rfl) z ?_ ?_
 ·refine Am z ?_ ?_
  ·intro w11 hB9
   refine Aw<|⟨_,z,?_⟩
   exact Aq (hC11.grow hB9) 1 z z A6 z z<|Ab<|A0 (An _ _) z z ⟨z,z⟩
  refine Am z ?_ ?_
  ·intro w11 hB9
   refine Aw<|⟨_,z,?_⟩
   exact Aq (hC11.grow hB9) 1 z z AU z z<|Ab<|A0 (An _ _) z z ⟨z,z⟩
  refine Am z ?_ ?_
  ·intro w11 hB9
   refine A7 z z z ?_
   rintro _ _ ⟨rfl,rfl⟩ _
   refine A7 z z z ?_
   rintro _ _ ⟨rfl,rfl⟩ _
   refine Aw<|⟨_,z,?_⟩
   refine AJ Tryz.call53 z z (c_S_l8Access a4.1 a4.2 u4 (g4.now (hC11.keep.then hB9)) x4 hr4) ?_
   rintro v1 w10 ⟨hB8,F1,hv3,hn1,hb1⟩
   exact Ab<|Cq hB8 z z hv3 hn1 hb1 (Val.inh hv3)
  refine Am z ?_ ?_
  ·intro w11 hB9
   refine Aw<|⟨_,z,?_⟩
   exact Aq (hC11.grow hB9) 2 z z A6 z z<|Ab<|A0 (An _ _) z z ⟨z,z⟩
  exact Ba
 intro w12 hB10
 refine Au z z z ?_
 rintro _ _ ⟨rfl,rfl⟩
 refine Au z z z ?_
 rintro _ _ ⟨rfl,rfl⟩
 refine Au z z z fun v1 F1 hv3=>Au z z z<|?_
 rintro _ _ ⟨rfl,rfl⟩
 refine Bh ?_
 intro hn2 hb2
 have hC12:=hC11.pushL hB10 (Bs:=[Ag v1 (x4:(Int × (List Int)))]) (Fs:=[F1]) ⟨F1,_,z,hv3,z⟩ (by simpa using hn2) (fun b h=>(hb2 b (by simpa using h)).1)
 obtain ⟨v3,rfl,hC13⟩:=st45_own hC12
 refine tk 7 z z (Cp (vs:=[(0,(.agg #[(I x4.1),v3])),(2,(I a3.2))]) z z (built49_0_2 z z))<|BD (vs:=[(0,(.agg #[(I x4.1),v3])),(2,(I a3.2))]) z z z (built49_0_2 z z)<|Ab<|oe 8 z<|Aj (cs':=[(I x4.1),v3,(I 0),(I a3.2)]) (new:=[(I x4.1),v3,(I 0),(I a3.2)]) hC13 1 z z (fac z<|fac (AT (hC13.ro 0 z))<|fac z<|fac z<|fa0) z AC z z fun w13 hC14 hKp2=>?_
 try dsimp only [List.set] at hC14
 have hk4:=Ar ((((((Al hB1).then hB2).then hB3).then hB4).then hB7).then hB10) (Ao ((Al hB1).then hB2).size hN3) hKp2
 have hk5:=Ar (((((Al hB2).then hB3).then hB4).then hB7).then hB10) (Ao (Al hB2).size hN3) hKp2
 have hk6:=Ar ((((Al hB3).then hB4).then hB7).then hB10) hN3 hKp2
 refine Ab<|ta 9 z z z<|dn<|Av<|AK<|?_
 obtain rfl:=Aa hF
 refine BZ z (rv_cell_agg (cs':=[(I x4.1),v3,(I 0),(I a3.2)]) hC14 (i:=1) z z z Bp AC z) (rv_tmp z) ?_
 have hC15:=hC14.triv (Ck (true))
 have hC17:=hC15.f1
 have hC16:=BW x4.1 v3 x4.2 0 a3.2 hC17
 exact ⟨_,z,res2_of hC16⟩
theorem c_S_l25Cursor {w0:World} (a1:((Int × (List Int)) × Int × Int)) (u1:Value) (g1:RO [] w0 u1 a1.1.2) (rr:((Int × (List Int)) × Int × Int)) (hF:S.l25Cursor a1=some rr) :
 Calls Tryz.prog 60 [(.agg #[(I a1.1.1),u1,(I a1.2.1),(I a1.2.2)])].toArray w0 fun e w'=>∃v,e=.returned v∧Res w0 rr v w':=by
 refine A3 Tryz.func60 z z ?_
 have hC0:=AH w0
 unfold S.l25Cursor at hF
 refine Ad<|Bz (cs:=[(I a1.1.1),u1,(I a1.2.1),(I a1.2.2)]) hC0 z z z fun b1 w1 hC1 hB1 hN1=>Bd hC1 zero49 z z fun b2 w2 hC2 hB2 hN2=>Ab<|AA<|W_drawn 13 z hmix fun w3 hB3=>have hC3:=hC2.grow hB3;tf 0 Br A9 z z z z z<|tf 1 AV Ax z z z z z<|tf 3 Br A9 z z z z z<|tf 4 AV A4 z z z z z<|tf 7 Br Ax z z z z z<|tf 9 Br Ax z z z z z<|be hF fun x1 hr1 hF=>wAS (l':=[(0,(.agg #[(I a1.1.1),u1,(I a1.2.1),(I a1.2.2)])),(1,(ptr b1 0)),(2,(ptr b2 0)),(3,(ptr b1 0)),(4,(ptr b1 0)),(6,(ptr b1 0)),(7,(ptr b1 1)),(10,(ptr b1 2)),(12,(ptr b1 3))]) ⟨z,z,z,z,z,z,z,z,z,Ak⟩<|Bq [⟨2,[],fun vs=>AR (I a1.1.1),[]⟩,⟨5,[],fun vs=>AR u1,[]⟩,⟨6,[],fun vs=>Cv x1,[]⟩,⟨8,[],fun vs=>AR (I a1.2.1),[]⟩,⟨10,[],fun vs=>AR (I a1.2.2),[]⟩] [[],[],[2,5],[],[]] 2 z (by kernel_rfl) (by kernel_rfl) z ?_ ?_
 ·refine Am z ?_ ?_
  ·intro w5 hB5
   refine Aw<|⟨_,z,?_⟩
   exact Aq (hC3.grow hB5) 1 z z A6 z z<|Ab<|A0 (An _ _) z z ⟨z,z⟩
  refine Am z ?_ ?_
  ·intro w5 hB5
   refine Aw<|⟨_,z,?_⟩
   exact Aq (hC3.grow hB5) 1 z z AU z z<|Ab<|A0 (An _ _) z z ⟨z,z⟩
  refine Am z ?_ ?_
  ·intro w5 hB5
   refine A7 z z z ?_
   rintro _ _ ⟨rfl,rfl⟩ _
   refine A7 z z z ?_
   rintro _ _ ⟨rfl,rfl⟩ _
   refine Aw<|⟨_,z,?_⟩
   refine AJ Tryz.call53 z z (c_S_l8Access a1.1.1 a1.1.2 u1 (g1.now (hC3.keep.then hB5)) x1 hr1) ?_
   rintro v1 w4 ⟨hB4,F1,hv1,hn1,hb1⟩
   exact Ab<|Cq hB4 z z hv1 hn1 hb1 (Val.inh hv1)
  refine Am z ?_ ?_
  ·intro w5 hB5
   refine Aw<|⟨_,z,?_⟩
   exact Aq (hC3.grow hB5) 1 z z A6 z z<|Ab<|A0 (An _ _) z z ⟨z,z⟩
  refine Am z ?_ ?_
  ·intro w5 hB5
   refine Aw<|⟨_,z,?_⟩
   exact Aq (hC3.grow hB5) 1 z z A6 z z<|Ab<|A0 (An _ _) z z ⟨z,z⟩
  exact Ba
 intro w6 hB6
 refine Au z z z ?_
 rintro _ _ ⟨rfl,rfl⟩
 refine Au z z z ?_
 rintro _ _ ⟨rfl,rfl⟩
 refine Au z z z fun v1 F1 hv1=>Au z z z<|?_
 rintro _ _ ⟨rfl,rfl⟩
 refine Au z z z ?_
 rintro _ _ ⟨rfl,rfl⟩
 refine Bh ?_
 intro hn2 hb2
 have hC4:=hC3.pushL hB6 (Bs:=[Ag v1 (x1:(Int × (List Int)))]) (Fs:=[F1]) ⟨F1,_,z,hv1,z⟩ (by simpa using hn2) (fun b h=>(hb2 b (by simpa using h)).1)
 obtain ⟨v3,rfl,hC5⟩:=st45_own hC4
 refine tk 11 z z (Cp (vs:=[(0,(.agg #[(I x1.1),v3])),(1,(I a1.2.1)),(2,(I a1.2.2))]) z z (built49_0_1_2 z z z))<|BD (vs:=[(0,(.agg #[(I x1.1),v3])),(1,(I a1.2.1)),(2,(I a1.2.2))]) z z z (built49_0_1_2 z z z)<|Ab<|oe 12 z<|Aj (cs':=[(I x1.1),v3,(I a1.2.1),(I a1.2.2)]) (new:=[(I x1.1),v3,(I a1.2.1),(I a1.2.2)]) hC5 1 z z (fac z<|fac (AT (hC5.ro 0 z))<|fac z<|fac z<|fa0) z AC z z fun w7 hC6 hKp1=>?_
 try dsimp only [List.set] at hC6
 have hk1:=Ar ((((Al hB1).then hB2).then hB3).then hB6) (Ao (Al hB1).size hN2) hKp1
 have hk2:=Ar (((Al hB2).then hB3).then hB6) hN2 hKp1
 refine Ab<|dn<|Av<|AK<|?_
 obtain rfl:=Aa hF
 refine BR z (rv_cell_agg (cs':=[(I x1.1),v3,(I a1.2.1),(I a1.2.2)]) hC6 (i:=1) z z z Bp AC z) ?_
 have hC7:=BW x1.1 v3 x1.2 a1.2.1 a1.2.2 hC6
 exact ⟨_,z,Cf hC7 0 z⟩
theorem c_S_PageAt {w0:World} (a1:(List (Int × (List Int)))) (u1:Value) (g1:RO [] w0 u1 a1) (a2:Int) (a3:Int) (rr:((List (Int × (List Int))) × Int × Bool)) (hF:S.PageAt a1 a2 a3=some rr) :
 Calls Tryz.prog 61 [u1,(I a2),(I a3)].toArray w0 fun e w'=>∃v,e=.returned v∧Res3 w0 rr.1 rr.2.1 rr.2.2 v w':=by
 refine A3 Tryz.func61 z z ?_
 have hC0:=AH w0
 unfold S.PageAt at hF
 refine Ad<|Af z z<|Af z z<|Af z z<|Ab<|AA<|be hF fun r1 hr1 hF=>BL (fun l w=>∃x1:Bool,x1=r1∧l=[(0,u1),(1,(I a2)),(2,(I a3)),(19,(.bool x1))]∧Below w0.heap.size w0 w∧Ctx [] w0 w []) ?_ ?_
 ·refine Bt<|Ae z z<|be hr1 fun x2 hr2 hr1=>cb B9 z z (c_S_l1In a3 1 9 x2 hr2) fun w2 hB2=>have hC2:=hC0.grow hB2;B2 z z<|Ae z z<|B3 (fun hc1=>?_) (fun hc1=>?_)
  ·replace hr1:=AD hr1 hc1
   refine gs z z z z<|gs z z z z<|gs z z z z<|gs z z z z<|gs z z z z<|AI z z z<|Ab<|?_
   obtain rfl:=Aa hr1
   exact Ay (l':=[(0,u1),(1,(I a2)),(2,(I a3)),(19,(.bool true))]) ⟨z,z,z,z,Ak⟩<|⟨true,z,z,(Al hB2).below,hC2⟩
  replace hr1:=AE hr1 hc1
  refine Ai z z<|Ae z z<|Ai z z<|Ae z z<|Ai z z<|Bo Ah g1 z z<|be hr1 fun x3 hr3 hr1=>Ai z z<|cb B9 z z (c_S_l1In a2 0 (List.length a1:Int) x3 hr3) fun w3 hB3=>have hC3:=hC2.grow hB3;Ai z z<|B2 z z<|AY z z z<|Ab<|?_
  obtain rfl:=Aa hr1
  exact Ay (l':=[(0,u1),(1,(I a2)),(2,(I a3)),(19,(.bool (!x3)))]) ⟨z,z,z,z,Ak⟩<|⟨(!x3),z,z,((Al hB2).then hB3).below,hC3⟩
 rintro _ w1 ⟨x1,rfl,rfl,hB1,hC1⟩
 try dsimp only at hF
 refine AL z (fun hc2=>?_) (fun hc2=>?_)
 ·replace hF:=AD hF hc2
  refine Ad<|AN (vs:=[]) hC1 Ah ty29 z z z z (by simp) z z fun b1 w4 hC4 hB4=>?_
  have hC5:=hC4.row0 (α:=(Int × (List Int)))
  have hC6:=hC5.front 1 z
  dsimp only [List.eraseIdx,List.cons_append,List.nil_append,List.append_nil] at hC6
  have hC7:Ctx [] w0 w4 (Ag (.slice (some ⟨b1,0,none⟩) 0 0) (([]:List (Int × (List Int))):List (Int × (List Int)))::[]):=hC6.rowOwn (by simp [maxLen])
  refine Af z z<|Af z z<|Af z z<|Ab<|AK<|A2<|?_
  obtain rfl:=Aa hF
  refine fn_ret3 z z z z ?_
  have hC8:=hC7.triv (Ck (false))
  have hC9:=hC8.triv (Bv (0))
  have hC10:=hC9.f2
  exact ⟨_,z,res3_of hC10⟩
 replace hF:=AE hF hc2
 refine AM<|Av<|Ad<|Ae z z<|Bo Ah g1 z z<|Ae z z<|Ae z z<|Bw z z z<|WL_min z z z<|Af z z<|Ab<|Ad<|Ae z z<|Ae z z<|Ae z z<|be hF fun x4 hx1 hF=>WL_slice_lh Ah ty29 g1 hx1 z z z z fun v1 h1=>be hF fun x5 hr4 hF=>AJ Tryz.call79 z z (c_S_l2Copy x4 v1 (h1.now hC1.keep) x5 hr4)<|?_
 rintro v2 w5 ⟨hB5,F1,hv3,hn1,hb1⟩
 have hC11:=hC1.push hB5 (A:=Ag v2 x5) hv3 hn1 hb1
 refine Ae z z<|Af z z<|Af z z<|Af z z<|Ab<|AK<|?_
 obtain rfl:=Aa hF
 refine fn_ret3 z z z z ?_
 have hC12:=hC11.triv (Ck (true))
 have hC13:=hC12.triv (Bv (if (w64 (a2+a3)) < (List.length a1:Int) then w64 (a2+a3) else (List.length a1:Int)))
 have hC14:=hC13.f2
 exact ⟨_,z,res3_of hC14⟩
theorem c_S_l5Fits {w0:World} (a1:(Int × (List Int) × Int × Int × Int)) (u1:Value) (g1:RO [] w0 u1 a1.2.1) (a2:(List Int)) (u2:Value) (g2:RO [] w0 u2 a2) (a3:(Int × (List Int))) (u3:Value) (g3:RO [] w0 u3 a3.2) (rr:Bool) (hF:S.l5Fits a1 a2 a3=some rr) :
 Calls Tryz.prog 86 [(.agg #[(I a1.1),u1,(I a1.2.2.1),(I a1.2.2.2.1),(I a1.2.2.2.2)]),u2,(.agg #[(I a3.1),u3])].toArray w0 fun e w'=>∃v,e=.returned v∧Res w0 rr v w':=by
 refine A3 Tryz.func86 z z ?_
 have hC0:=AH w0
 unfold S.l5Fits at hF
 refine Ad<|Bz (cs:=[(I a1.1),u1,(I a1.2.2.1),(I a1.2.2.2.1),(I a1.2.2.2.2)]) hC0 z z z fun b1 w1 hC1 hB1 hN1=>Bz (cs:=[(I a3.1),u3]) hC1 z z z fun b2 w2 hC2 hB2 hN2=>Af z z<|Ab<|AA<|Ad<|fd A1 Ax z z z z<|Aq hC2 0 z z A6 z z<|fd AP Ax z z z z<|Aq hC2 1 z z A6 z z<|Cl z z z<|Ab<|AL z (fun hc1=>?_) (fun hc1=>?_)
 ·replace hF:=AD hF hc1
  refine Ad<|Af z z<|Ab<|AK<|A2<|?_
  obtain rfl:=Aa hF
  exact AB z z<|⟨_,z,Bf hC2 _⟩
 replace hF:=AE hF hc1
 refine AM<|Av<|AA<|Ad<|Af z z<|Ab<|be hF fun r1 hr1 hF=>Bx (fun l w=>.inl ()=r1∧l=[]∧Below w2.heap.size w2 w∧Ctx [] w0 w []) ?_ ?_
 ·refine Bb<|wS (l':=[(1,u2),(3,(ptr b1 0)),(5,(ptr b2 0)),(7,(I 0))]) ⟨z,z,z,z,Ak⟩<|BE (fun k l w=>∃x1:Int,l=[(1,u2),(3,(ptr b1 0)),(5,(ptr b2 0)),(7,(I x1))]∧Below w2.heap.size w2 w∧Ctx [] w0 w [Ac b2 [(I a3.1),u3],Ac b1 [(I a1.1),u1,(I a1.2.2.1),(I a1.2.2.2.1),(I a1.2.2.2.2)]]∧S.l5Fits_l1 a1 a2 a3 k x1=some r1) FUEL ⟨0,z,(An _ _),hC2,hr1⟩<|?_
  clear hr1
  rintro k1 _ w3 ⟨x1,rfl,hB3,hC3,hL1⟩
  cases k1 with
  | zero=>rw [S.l5Fits_l1] at hL1; cases hL1
  | succ k1 =>
   rw [S.l5Fits_l1] at hL1
   refine AA<|Ad<|Ae z z<|fd AP A4 z z z z<|Aq hC3 1 z z AU z z<|Bo Ap g1 z z<|B8 z z z<|Ab<|AL z (fun hc2=>?_) (fun hc2=>?_)
   ·replace hL1:=AD hL1 hc2
    refine AM<|Av<|AA<|Bb<|AA<|W_drawn 14 z hmix fun w4 hB4=>have hC4:=hC3.grow hB4;tf 0 A1 A4 z z z z z<|tf 2 AP A4 z z z z z<|tm 4 z z z<|tm 9 z z z<|tm 10 z z z<|be hL1 fun x2 hx1 hL1=>tk 11 z z (BK Ap ty3 g2 hx1 z z)<|AZ Ap ty3 g2 hx1 z z z fun b3 o1 h1=>Ab<|be hL1 fun x3 hx2 hL1=>be hL1 fun x4 hx3 hL1=>wAS (l':=[(1,u2),(3,(ptr b1 0)),(5,(ptr b2 0)),(7,(I x1)),(13,(I x1)),(14,(ptr b1 1)),(15,u1),(16,(I (List.length a1.2.1:Int))),(17,(.bool (decide (x1 < (List.length a1.2.1:Int))))),(20,(ptr b2 1)),(22,(ptr b1 1)),(24,(I x1)),(29,u2),(30,(I x1)),(31,(ptr b3 o1))]) ⟨z,z,z,z,z,z,z,z,z,z,z,z,z,z,z,Ak⟩<|Bq [⟨1,[],fun vs=>AR u3,[]⟩,⟨3,[],fun vs=>AR u1,[]⟩,⟨5,[],fun vs=>Cc [] w0 x3,[]⟩,⟨6,[],fun vs=>AR (I x3),[]⟩,⟨7,[],fun vs=>Cc [] w0 x4,[]⟩,⟨8,[],fun vs=>AR (I x4),[]⟩,⟨12,[],fun vs=>AR (I x2),[]⟩] [[],[],[3],[5],[1,6],[7],[]] 1 z (by kernel_rfl) (by kernel_rfl) z ?_ ?_
    ·refine Am z ?_ ?_
     ·intro w5 hB5
      refine Aw<|⟨_,z,?_⟩
      exact Aq (hC4.grow hB5) 0 z z AU z z<|Ab<|A0 (An _ _) z z ⟨z,z⟩
     refine Am z ?_ ?_
     ·intro w5 hB5
      refine Aw<|⟨_,z,?_⟩
      exact Aq (hC4.grow hB5) 1 z z AU z z<|Ab<|A0 (An _ _) z z ⟨z,z⟩
     refine Am z ?_ ?_
     ·intro w5 hB5
      refine A7 z z z ?_
      rintro _ _ ⟨rfl,rfl⟩ _
      refine Aw<|⟨_,z,?_⟩
      exact AZ Ap ty3 g1 hx2 z z z fun b4 o2 h2=>Ab<|A0 (An _ _) z z ⟨z,_,_,z,h2⟩
     refine Am z ?_ ?_
     ·intro w5 hB5
      refine A7 z z z ?_
      rintro _ _ ⟨rfl,b4,o2,rfl,h2⟩ _
      refine Aw<|⟨_,z,?_⟩
      refine Be ty3 h2 (hC4.keep.then hB5) z z (fun v1 h3=>?_)
      obtain rfl:=BJ h3
      exact Ab<|A0 (An _ _) z z ⟨z,z⟩
     refine Am z ?_ ?_
     ·intro w5 hB5
      refine A7 z z z ?_
      rintro _ _ ⟨rfl,rfl⟩ _
      refine A7 z z z ?_
      rintro _ _ ⟨rfl,rfl⟩ _
      refine Aw<|⟨_,z,?_⟩
      exact AZ Ap ty3 g3 hx3 z z z fun b5 o3 h4=>Ab<|A0 (An _ _) z z ⟨z,_,_,z,h4⟩
     refine Am z ?_ ?_
     ·intro w5 hB5
      refine A7 z z z ?_
      rintro _ _ ⟨rfl,b5,o3,rfl,h4⟩ _
      refine Aw<|⟨_,z,?_⟩
      refine Be ty3 h4 (hC4.keep.then hB5) z z (fun v2 h5=>?_)
      obtain rfl:=BJ h5
      exact Ab<|A0 (An _ _) z z ⟨z,z⟩
     refine Am z ?_ ?_
     ·intro w5 hB5
      refine Aw<|⟨_,z,?_⟩
      refine Be ty3 h1 (hC4.keep.then hB5) z z (fun v3 h6=>?_)
      obtain rfl:=BJ h6
      exact Ab<|A0 (An _ _) z z ⟨z,z⟩
     exact Ba
    intro w6 hB6
    refine Au z z z ?_
    rintro _ _ ⟨rfl,rfl⟩
    refine Au z z z ?_
    rintro _ _ ⟨rfl,rfl⟩
    refine Au z z z ?_
    rintro _ _ ⟨rfl,b4,o2,rfl,h2⟩
    refine Au z z z ?_
    rintro _ _ ⟨rfl,rfl⟩
    refine Au z z z ?_
    rintro _ _ ⟨rfl,b5,o3,rfl,h4⟩
    refine Au z z z ?_
    rintro _ _ ⟨rfl,rfl⟩
    refine Au z z z ?_
    rintro _ _ ⟨rfl,rfl⟩
    refine Bh fun hn1 hb1=>have hC5:=hC4.grow hB6;tk 13 z z (fl_neq z z)<|Cl z z z<|Ab<|dn<|Av<|AL z (fun hc3=>?_) (fun hc3=>?_)
    ·replace hL1:=AD hL1 hc3
     refine Ad<|Af z z<|Ab<|AK<|Bu<|A2<|A2<|Bu<|A2<|A2<|?_
     obtain rfl:=Aa hL1
     dsimp only at hF
     obtain rfl:=Aa hF
     exact AB z z<|⟨_,z,Bf hC5 _⟩
    replace hL1:=AE hL1 hc3
    exact AM<|Bg<|Av<|Bt<|Ae z z<|Bw z z z<|Af z z<|Ab<|Ay (l':=[(1,u2),(3,(ptr b1 0)),(5,(ptr b2 0)),(7,(I (w64 (x1+1))))]) ⟨z,z,z,z,Ak⟩<|⟨k1,AO _,w64 (x1+1),z,(((Al hB3).then hB4).then hB6).below,hC5,hL1⟩
   replace hL1:=AE hL1 hc2
   refine BF (AW (AW (B4 ?_)))
   obtain rfl:=Aa hL1
   have hC6:=hC3.h0
   exact Ay (l':=[]) Ak<|⟨z,z,(Al hB3).below,hC6⟩
 rintro l2 _ w7 hs2 ⟨rfl,rfl,hB7,hC7⟩
 try dsimp only at hF
 refine Bm hs2 ?_
 clear hs2
 refine Ad<|Af z z<|Ab<|AK<|?_
 obtain rfl:=Aa hF
 exact AB z z<|⟨_,z,Bf hC7 _⟩
theorem c_S_l5Matches {w0:World} (a1:(Int × (List Int) × Int × Int × Int)) (u1:Value) (g1:RO [] w0 u1 a1.2.1) (a2:(List Int)) (u2:Value) (g2:RO [] w0 u2 a2) (a3:(List (Int × (List Int)))) (u3:Value) (g3:RO [] w0 u3 a3) (rr:(List (Int × (List Int)))) (hF:S.l5Matches a1 a2 a3=some rr) :
 Calls Tryz.prog 62 [(.agg #[(I a1.1),u1,(I a1.2.2.1),(I a1.2.2.2.1),(I a1.2.2.2.2)]),u2,u3].toArray w0 fun e w'=>∃v,e=.returned v∧Res w0 rr v w':=by
 refine A3 Tryz.func62 z z ?_
 have hC0:=AH w0
 unfold S.l5Matches at hF
 refine Ad<|Bz (cs:=[(I a1.1),u1,(I a1.2.2.1),(I a1.2.2.2.1),(I a1.2.2.2.2)]) hC0 z z z fun b1 w1 hC1 hB1 hN1=>Af z z<|Ab<|Ad<|AN (vs:=[]) hC1 Ah ty29 z z z z (by simp) z z fun b2 w2 hC2 hB2=>?_
 have hC3:=hC2.row0 (α:=(Int × (List Int)))
 have hC4:=hC3.front 1 z
 dsimp only [List.eraseIdx,List.cons_append,List.nil_append,List.append_nil] at hC4
 have hC5:Ctx [] w0 w2 (Ag (.slice (some ⟨b2,0,none⟩) 0 0) (([]:List (Int × (List Int))):List (Int × (List Int)))::[Ac b1 [(I a1.1),u1,(I a1.2.2.1),(I a1.2.2.2.1),(I a1.2.2.2.2)]]):=hC4.rowOwn (by simp [maxLen])
 refine Af z z<|Ab<|AA<|Ad<|Af z z<|Ab<|be hF fun r1 hr1 hF=>Bx (fun l w=>∃v2:Value,∃x3:(List (Int × (List Int))),x3=r1∧l=[(7,v2)]∧Ctx [] w0 w [Ag v2 (x3:(List (Int × (List Int))))]) ?_ ?_
 ·refine Bb<|wS (l':=[(1,u2),(2,u3),(3,(ptr b1 0)),(7,(.slice (some ⟨b2,0,none⟩) 0 0)),(8,(I 0))]) ⟨z,z,z,z,z,Ak⟩<|BE (fun k l w=>∃v1:Value,∃x1:(List (Int × (List Int))),∃x2:Int,l=[(1,u2),(2,u3),(3,(ptr b1 0)),(7,v1),(8,(I x2))]∧Ctx [] w0 w [Ag v1 (x1:(List (Int × (List Int)))),Ac b1 [(I a1.1),u1,(I a1.2.2.1),(I a1.2.2.2.1),(I a1.2.2.2.2)]]∧S.l5Matches_l1 a3 a1 a2 k x1 x2=some r1) FUEL ⟨(.slice (some ⟨b2,0,none⟩) 0 0),([]:List (Int × (List Int))),0,z,hC5,hr1⟩<|?_
  clear hr1
  rintro k1 _ w3 ⟨v1,x1,x2,rfl,hC6,hL1⟩
  cases k1 with
  | zero=>rw [S.l5Matches_l1] at hL1; cases hL1
  | succ k1 =>
   rw [S.l5Matches_l1] at hL1
   refine AA<|Ad<|Ae z z<|Ae z z<|Bo Ah g3 z z<|B8 z z z<|Ab<|AL z (fun hc1=>?_) (fun hc1=>?_)
   ·replace hL1:=AD hL1 hc1
    refine AM<|Av<|AA<|Bb<|AA<|W_drawn 7 z hmix fun w4 hB4=>have hC7:=hC6.grow hB4;tm 1 z z z<|tm 2 z z z<|tm 3 z z z<|be hL1 fun x4 hx1 hL1=>tk 4 z z (BK Ah ty29 g3 hx1 z z)<|AZ Ah ty29 g3 hx1 z z z fun b3 o1 h1=>Ab<|wAS (l':=[(1,u2),(2,u3),(3,(ptr b1 0)),(7,v1),(8,(I x2)),(10,(I x2)),(11,u3),(12,(I (List.length a3:Int))),(13,(.bool (decide (x2 < (List.length a3:Int))))),(17,u2),(18,u3),(19,(I x2)),(20,(ptr b3 o1))]) ⟨z,z,z,z,z,z,z,z,z,z,z,z,z,Ak⟩<|Bq [⟨0,[],fun vs=>AR (.agg #[(I a1.1),u1,(I a1.2.2.1),(I a1.2.2.2.1),(I a1.2.2.2.2)]),[]⟩,⟨5,[],fun vs=>Cs [] w0 x4,[]⟩] [[],[]] 1 z (by kernel_rfl) (by kernel_rfl) z ?_ ?_
    ·refine Am z ?_ ?_
     ·intro w5 hB5
      refine Aw<|⟨_,z,?_⟩
      exact At [(I a1.1),u1,(I a1.2.2.1),(I a1.2.2.2.1),(I a1.2.2.2.2)] (hC7.grow hB5) 1 z z z Ce BC z z<|Ab<|A0 (An _ _) z z ⟨z,z⟩
     refine Am z ?_ ?_
     ·intro w5 hB5
      refine Aw<|⟨_,z,?_⟩
      exact Be ty29 h1 (hC7.keep.then hB5) z z fun v5 h4=>Ab<|A0 (An _ _) z z ⟨z,h4⟩
     exact Ba
    intro w6 hB6
    refine Au z z z ?_
    rintro _ _ ⟨rfl,rfl⟩
    refine Au z z z ?_
    rintro v5 _ ⟨rfl,h4⟩
    obtain ⟨v4,rfl,h3⟩:=BM h4
    refine Bh fun hn1 hb1=>have hC8:=hC7.grow hB6;be hL1 fun x5 hr2 hL1=>oe 6 z<|cb Tryz.call86 z z (c_S_l5Fits (a1.1,a1.2.1,a1.2.2.1,a1.2.2.2.1,a1.2.2.2.2) u1 (g1.now hC8.keep) a2 u2 (g2.now hC8.keep) x4 v4 (h3.now hC8.keep) x5 hr2) fun w7 hB7=>have hC9:=hC8.grow hB7;Ab<|dn<|Av<|be hL1 fun r2 hr3 hL1=>Bx (fun l w=>∃v6:Value,∃x6:(List (Int × (List Int))),x6=r2∧l=[(1,u2),(2,u3),(3,(ptr b1 0)),(7,v6),(8,(I x2))]∧Ctx [] w0 w [Ag v6 (x6:(List (Int × (List Int)))),Ac b1 [(I a1.1),u1,(I a1.2.2.1),(I a1.2.2.2.1),(I a1.2.2.2.2)]]) ?_ ?_
    ·refine AL z (fun hc2=>?_) (fun hc2=>?_)
     ·replace hr3:=AD hr3 hc2
      refine W_drawn 15 z hmix fun w10 hB9=>have hC11:=hC9.grow hB9;tm 0 z z z<|tm 1 z z z<|tm 2 z z z<|be hr3 fun x7 hx2 hr3=>tk 3 z z (BK Ah ty29 g3 hx2 z z)<|AZ Ah ty29 g3 hx2 z z z fun b4 o2 h5=>Ab<|tf 4 A1 Ax z z z z z<|tm 6 z z z<|tm 7 z z z<|be hr3 fun x8 hx3 hr3=>tk 8 z z (BK Ah ty29 g3 hx3 z z)<|AZ Ah ty29 g3 hx3 z z z fun b5 o3 h6=>Ab<|tf 9 A1 A4 z z z z z<|wAS (l':=[(1,u2),(2,u3),(3,(ptr b1 0)),(7,v1),(8,(I x2)),(10,(I x2)),(11,u3),(12,(I (List.length a3:Int))),(13,(.bool (decide (x2 < (List.length a3:Int))))),(16,(.agg #[(I a1.1),u1,(I a1.2.2.1),(I a1.2.2.2.1),(I a1.2.2.2.2)])),(17,u2),(18,u3),(19,(I x2)),(20,(ptr b3 o1)),(21,(.agg #[(I x4.1),v4])),(22,(.bool x5)),(23,v1),(24,u3),(25,(I x2)),(26,(ptr b4 o2)),(27,(ptr b4 (o2+0))),(29,u3),(30,(I x2)),(31,(ptr b5 o3)),(32,(ptr b5 (o3+1)))]) ⟨z,z,z,z,z,z,z,z,z,z,z,z,z,z,z,z,z,z,z,z,z,z,z,z,z,Ak⟩<|Bq [⟨5,[],fun vs=>AR (I x7.1),[]⟩,⟨10,[],fun vs=>Cs [] w0 x8.2,[]⟩] [[],[]] 4 z (by kernel_rfl) (by kernel_rfl) z ?_ ?_
      ·refine Am z ?_ ?_
       ·intro w11 hB10
        refine Aw<|⟨_,z,?_⟩
        refine Be ty3 h5.fst (hC11.keep.then hB10) z z (fun v7 h7=>?_)
        obtain rfl:=BJ h7
        exact Ab<|A0 (An _ _) z z ⟨z,z⟩
       refine Am z ?_ ?_
       ·intro w11 hB10
        refine Aw<|⟨_,z,?_⟩
        exact Be ty24 h6.snd (hC11.keep.then hB10) z z fun v8 h8=>Ab<|A0 (An _ _) z z ⟨z,h8⟩
       exact Ba
      intro w12 hB11
      refine Au z z z ?_
      rintro _ _ ⟨rfl,rfl⟩
      refine Au z z z ?_
      rintro v8 _ ⟨rfl,h8⟩
      refine Bh fun hn2 hb2=>have hC12:=hC11.grow hB11;be hr3 fun x9 hr4 hr3=>oe 11 z<|AJ C2 z z (c_S_l2One x7.1 x8.2 v8 (h8.now hC12.keep) x9 hr4)<|?_
      rintro v9 w13 ⟨hB12,F1,hv2,hn3,hb3⟩
      have hC13:=hC12.push hB12 (A:=Ag v9 x9) hv2 hn3 hb3
      obtain ⟨v10,rfl,hC14⟩:=st29_own hC13
      refine Ab<|oe 12 z<|AN (vs:=[(.agg #[(I x9.1),v10])]) hC14 Ah ty29 z z z z (fac z<|fa0) z z fun b6 w14 hC15 hB13=>?_
      have hC16:=hC15.row0 (α:=(Int × (List Int)))
      have hC18:=hC16.f2
      have hC17:=Cj x9.1 v10 x9.2 hC18
      have hC19:=hC17.row1
      have hC20:=hC19.front 1 z
      dsimp only [List.eraseIdx,List.cons_append,List.nil_append,List.append_nil] at hC20
      have hC21:Ctx [] w0 w14 (Ag (.slice (some ⟨b6,0,none⟩) 1 1) ([(x9.1,x9.2)]:List (Int × (List Int)))::[Ag v1 (x1:(List (Int × (List Int)))),Ac b1 [(I a1.1),u1,(I a1.2.2.1),(I a1.2.2.2.1),(I a1.2.2.2.2)]]):=hC20.rowOwn (by simp [maxLen])
      refine Ab<|be hr3 fun x10 hx4 hr3=>oe 13 z<|BA hC21 0 z Ah ty29 z hx4 z z z fun v11 w15 hC22=>?_
      try dsimp only [List.set] at hC22
      refine Ab<|ta 14 z z z<|dn<|?_
      obtain rfl:=Aa hr3
      exact Ay (l':=[(1,u2),(2,u3),(3,(ptr b1 0)),(7,v11),(8,(I x2))]) ⟨z,z,z,z,z,Ak⟩<|⟨v11,x10,z,z,hC22⟩
     replace hr3:=AE hr3 hc2
     refine AM ?_
     obtain rfl:=Aa hr3
     exact Ay (l':=[(1,u2),(2,u3),(3,(ptr b1 0)),(7,v1),(8,(I x2))]) ⟨z,z,z,z,z,Ak⟩<|⟨v1,x1,z,z,hC9⟩
    rintro l2 _ w9 hs2 ⟨v6,x6,rfl,rfl,hC10⟩
    try dsimp only at hL1
    refine Bg<|Bm hs2<|?_
    clear hs2
    exact Bt<|Ae z z<|Bw z z z<|Af z z<|Ab<|Ay (l':=[(1,u2),(2,u3),(3,(ptr b1 0)),(7,v6),(8,(I (w64 (x2+1))))]) ⟨z,z,z,z,z,Ak⟩<|⟨k1,AO _,v6,x6,w64 (x2+1),z,hC10,hL1⟩
   replace hL1:=AE hL1 hc1
   refine BF (AW (AW (B4 ?_)))
   obtain rfl:=Aa hL1
   have hC24:=hC6.h1
   exact Ay (l':=[(7,v1)]) ⟨z,Ak⟩<|⟨v1,x1,z,z,hC24⟩
 rintro l3 _ w16 hs3 ⟨v2,x3,rfl,rfl,hC25⟩
 try dsimp only at hF
 refine Bm hs3 ?_
 clear hs3
 refine Ad<|Ae z z<|Af z z<|Ab<|AK<|?_
 obtain rfl:=Aa hF
 exact AB z z<|⟨_,z,Cf hC25 0 z⟩
theorem c_S_NextPage {w0:World} (a1:(List Int)) (u1:Value) (g1:RO [] w0 u1 a1) (a2:(List (Int × (List Int) × Int × Int × Int))) (u2:Value) (g2:RO [] w0 u2 a2) (a3:((List (Int × (List Int))) × Int)) (u3:Value) (g3:RO [] w0 u3 a3.1) (a4:((Int × (List Int)) × Int × Int)) (u4:Value) (g4:RO [] w0 u4 a4.1.2) (a5:Int) (rr:((List (Int × (List Int))) × ((Int × (List Int)) × Int × Int) × Int)) (hF:S.NextPage a1 a2 a3 a4 a5=some rr) :
 Calls Tryz.prog 21 [u1,u2,(.agg #[u3,(I a3.2)]),(.agg #[(I a4.1.1),u4,(I a4.2.1),(I a4.2.2)]),(I a5)].toArray w0 fun e w'=>∃v,e=.returned v∧Res3 w0 rr.1 rr.2.1 rr.2.2 v w':=by
 refine A3 Tryz.func21 z z ?_
 have hC0:=AH w0
 unfold S.NextPage at hF
 refine Ad<|Bz (cs:=[u3,(I a3.2)]) hC0 z z z fun b1 w1 hC1 hB1 hN1=>Bz (cs:=[(I a4.1.1),u4,(I a4.2.1),(I a4.2.2)]) hC1 z z z fun b2 w2 hC2 hB2 hN2=>Af z z<|Bd hC2 zero49 z z fun b3 w3 hC3 hB3 hN3=>Af z z<|Ab<|Ad<|At [(I a4.1.1),u4,(I a4.2.1),(I a4.2.2)] hC3 1 z z z Bp AC z z<|be hF fun x1 hr1 hF=>AJ Tryz.call60 z z (c_S_l25Cursor ((a4.1.1,a4.1.2),a4.2.1,a4.2.2) u4 (g4.now hC3.keep) x1 hr1)<|?_
 rintro v1 w4 ⟨hB4,F1,hv1,hn1,hb1⟩
 have hC4:=hC3.push hB4 (A:=Ag v1 x1) hv1 hn1 hb1
 obtain ⟨v2,rfl,hC5⟩:=st49_own hC4
 refine Bd hC5 zero49 z z fun b4 w5 hC6 hB5 hN4=>Aj (cs':=[(I x1.1.1),v2,(I x1.2.1),(I x1.2.2)]) (new:=[(I x1.1.1),v2,(I x1.2.1),(I x1.2.2)]) hC6 0 z z (fac z<|fac (AT (hC6.ro 1 z))<|fac z<|fac z<|fa0) z AC z z fun w6 hC7 hKp1=>?_
 try dsimp only [List.set] at hC7
 have hk1:=Ar (((((Al hB1).then hB2).then hB3).then hB4).then hB5) (Ao ((((Al hB1).then hB2).then hB3).then hB4).size hN4) hKp1
 have hk2:=Ar ((((Al hB2).then hB3).then hB4).then hB5) (Ao (((Al hB2).then hB3).then hB4).size hN4) hKp1
 have hk3:=Ar (((Al hB3).then hB4).then hB5) (Ao ((Al hB3).then hB4).size hN4) hKp1
 have hk4:=Ar ((Al hB4).then hB5) (Ao (Al hB4).size hN4) hKp1
 have hk5:=Ar (Al hB5) hN4 hKp1
 refine Ab<|AA<|be hF fun r1 hr2 hF=>BL (fun l w=>∃x2:Bool,x2=r1∧l=[(1,u2),(4,(I a5)),(7,(ptr b1 0)),(8,(ptr b2 0)),(11,(ptr b3 0)),(13,(ptr b4 0)),(41,(.bool x2))]∧Below w6.heap.size w6 w∧Ctx [] w0 w [Ac b4 [(I x1.1.1),v2,(I x1.2.1),(I x1.2.2)],Ag v2 (x1.1.2:(List Int)),Ac b3 [(I 0),(.slice none 0 0),(I 0),(I 0)],Ac b2 [(I a4.1.1),u4,(I a4.2.1),(I a4.2.2)],Ac b1 [u3,(I a3.2)]]) ?_ ?_
 ·refine Bt<|Ae z z<|At [u3,(I a3.2)] hC7 4 z z z A8 Az z z<|be hr2 fun x3 hr3 hr2=>cb Tryz.call11 z z (c_S_IsSource a1 u1 (g1.now hC7.keep) (a3.1,a3.2) u3 (g3.now hC7.keep) x3 hr3) fun w9 hB7=>have hC9:=hC7.grow hB7;B2 z z<|Ae z z<|B3 (fun hc1=>?_) (fun hc1=>?_)
  ·replace hr2:=AD hr2 hc1
   refine gs z z z z<|gs z z z z<|gs z z z z<|gs z z z z<|gs z z z z<|gs z z z z<|AI z z z<|Ae z z<|gs z z z z<|gs z z z z<|gs z z z z<|AI z z z<|Ae z z<|gs z z z z<|gs z z z z<|gs z z z z<|gs z z z z<|AI z z z<|Ab<|?_
   obtain rfl:=Aa hr2
   exact Ay (l':=[(1,u2),(4,(I a5)),(7,(ptr b1 0)),(8,(ptr b2 0)),(11,(ptr b3 0)),(13,(ptr b4 0)),(41,(.bool true))]) ⟨z,z,z,z,z,z,z,Ak⟩<|⟨true,z,z,(Al hB7).below,hC9⟩
  replace hr2:=AE hr2 hc1
  refine Ai z z<|Ae z z<|Ai z z<|Ae z z<|Ai z z<|fd Br A9 z z z z<|Ai z z<|At [(I a4.1.1),u4] hC9 3 z z z Bl A9 z z<|be hr2 fun x4 hr4 hr2=>Ai z z<|cb Tryz.call52 z z (c_S_IsAccess a1 u1 (g1.now hC9.keep) a2 u2 (g2.now hC9.keep) (a4.1.1,a4.1.2) u4 (g4.now hC9.keep) x4 hr4) fun w10 hB8=>have hC10:=hC9.grow hB8;Ai z z<|B2 z z<|AY z z z<|Ae z z<|B3 (fun hc2=>?_) (fun hc2=>?_)
  ·replace hr2:=AD hr2 hc2
   refine gs z z z z<|gs z z z z<|gs z z z z<|AI z z z<|Ae z z<|gs z z z z<|gs z z z z<|gs z z z z<|gs z z z z<|AI z z z<|Ab<|?_
   obtain rfl:=Aa hr2
   exact Ay (l':=[(1,u2),(4,(I a5)),(7,(ptr b1 0)),(8,(ptr b2 0)),(11,(ptr b3 0)),(13,(ptr b4 0)),(41,(.bool true))]) ⟨z,z,z,z,z,z,z,Ak⟩<|⟨true,z,z,((Al hB7).then hB8).below,hC10⟩
  replace hr2:=AE hr2 hc2
  refine Ai z z<|Ae z z<|be hr2 fun x5 hr5 hr2=>Ai z z<|cb B9 z z (c_S_l1In a5 1 9 x5 hr5) fun w11 hB9=>have hC11:=hC10.grow hB9;Ai z z<|B2 z z<|AY z z z<|Ae z z<|B3 (fun hc3=>?_) (fun hc3=>?_)
  ·replace hr2:=AD hr2 hc3
   refine gs z z z z<|gs z z z z<|gs z z z z<|gs z z z z<|AI z z z<|Ab<|?_
   obtain rfl:=Aa hr2
   exact Ay (l':=[(1,u2),(4,(I a5)),(7,(ptr b1 0)),(8,(ptr b2 0)),(11,(ptr b3 0)),(13,(ptr b4 0)),(41,(.bool true))]) ⟨z,z,z,z,z,z,z,Ak⟩<|⟨true,z,z,(((Al hB7).then hB8).then hB9).below,hC11⟩
  replace hr2:=AE hr2 hc3
  refine Ai z z<|fd Br Ax z z z z<|Ai z z<|Aq hC11 3 z z A6 z z<|be hr2 fun x6 hr6 hr2=>Ai z z<|cb B9 z z (c_S_l1In a4.2.1 0 1000 x6 hr6) fun w12 hB10=>have hC12:=hC11.grow hB10;Ai z z<|B2 z z<|AY z z z<|Ab<|?_
  obtain rfl:=Aa hr2
  exact Ay (l':=[(1,u2),(4,(I a5)),(7,(ptr b1 0)),(8,(ptr b2 0)),(11,(ptr b3 0)),(13,(ptr b4 0)),(41,(.bool (!x6)))]) ⟨z,z,z,z,z,z,z,Ak⟩<|⟨(!x6),z,z,((((Al hB7).then hB8).then hB9).then hB10).below,hC12⟩
 rintro _ w7 ⟨x2,rfl,rfl,hB6,hC8⟩
 try dsimp only at hF
 refine AL z (fun hc4=>?_) (fun hc4=>?_)
 ·replace hF:=AD hF hc4
  refine AA<|W_drawn 5 z hmix fun w13 hB11=>have hC13:=hC8.grow hB11;wAS (l':=[(1,u2),(4,(I a5)),(7,(ptr b1 0)),(8,(ptr b2 0)),(11,(ptr b3 0)),(13,(ptr b4 0)),(41,(.bool x2))]) ⟨z,z,z,z,z,z,z,Ak⟩<|Bq [⟨0,[],fun vs=>Cv (([]:List (Int × (List Int))):(List (Int × (List Int)))),[]⟩,⟨1,[],fun vs=>AR (.agg #[(I x1.1.1),v2,(I x1.2.1),(I x1.2.2)]),[]⟩,⟨2,[42],fun vs=>AR (vs.getD 0 undef),[]⟩] [[],[],[0]] 2 z (by kernel_rfl) (by kernel_rfl) z ?_ ?_
  ·refine Am z ?_ ?_
   ·intro w15 hB13
    refine Aw<|⟨_,z,?_⟩
    refine AN (vs:=[]) (AH w15) Ah ty29 z z z z (by simp) z z (fun b5 w14 hC14 hB12=>?_)
    have hC15:=hC14.row0 (α:=(Int × (List Int)))
    have hC16:=hC15.front 1 z
    dsimp only [List.eraseIdx,List.cons_append,List.nil_append,List.append_nil] at hC16
    have hC17:Ctx [] w15 w14 (Ag (.slice (some ⟨b5,0,none⟩) 0 0) (([]:List (Int × (List Int))):List (Int × (List Int)))::[]):=hC16.rowOwn (by simp [maxLen])
    exact Ab<|CI hC17 z z (fun F h=>h)
   refine Am z ?_ ?_
   ·intro w15 hB13
    refine Aw<|⟨_,z,?_⟩
    exact At [(I x1.1.1),v2,(I x1.2.1),(I x1.2.2)] (hC13.grow hB13) 0 z z z Bp AC z z<|Ab<|A0 (An _ _) z z ⟨z,z⟩
   refine Am z ?_ ?_
   ·intro w15 hB13
    refine A7 z z z fun v3 F2 hv6 _=>Aw<|⟨_,z,?_⟩
    exact Af z z<|Ab<|A0 (An _ _) z z ⟨z,z⟩
   exact Ba
  intro w16 hB14
  refine Au z z z fun v3 F2 hv6=>Au z z z<|?_
  rintro _ _ ⟨rfl,rfl⟩
  refine Au z z z ?_
  rintro _ _ ⟨rfl,rfl⟩
  refine Bh ?_
  intro hn2 hb2
  have hC18:=hC13.pushL hB14 (Bs:=[Ag v3 (([]:List (Int × (List Int))):(List (Int × (List Int))))]) (Fs:=[F2]) ⟨F2,_,z,hv6,z⟩ (by simpa using hn2) (fun b h=>(hb2 b (by simpa using h)).1)
  refine oe 3 z<|Aj (cs':=[(I x1.1.1),v2,(I x1.2.1),(I x1.2.2)]) (new:=[(I x1.1.1),v2,(I x1.2.1),(I x1.2.2)]) hC18 3 z z (fac z<|fac (AT (hC18.ro 2 z))<|fac z<|fac z<|fa0) z AC z z fun w17 hC19 hKp2=>?_
  try dsimp only [List.set] at hC19
  have hk6:=Ar (((hk1.then hB6).then hB11).then hB14) (Ao ((Al hB1).then hB2).size hN3) hKp2
  have hk7:=Ar (((hk2.then hB6).then hB11).then hB14) (Ao (Al hB2).size hN3) hKp2
  have hk8:=Ar (((hk3.then hB6).then hB11).then hB14) hN3 hKp2
  refine Ab<|ta 4 z z z<|dn<|Av<|AK<|A2<|?_
  obtain rfl:=Aa hF
  refine Co z (rv_tmp z) (rv_cell_agg (cs':=[(I x1.1.1),v2,(I x1.2.1),(I x1.2.2)]) hC19 (i:=3) z z z Bp AC z) (rv_tmp z) ?_
  have hC20:=hC19.triv (Bv (3))
  have hC22:=hC20.f3
  have hC21:=BW x1.1.1 v2 x1.1.2 x1.2.1 x1.2.2 hC22
  have hC23:=hC21.f2
  exact ⟨_,z,res3_of hC23⟩
 replace hF:=AE hF hc4
 refine AM<|Av<|AA<|Ad<|fd Br Ax z z z z<|Aq hC8 3 z z A6 z z<|fd A5 Ax z z z z<|Aq hC8 4 z z A6 z z<|Cl z z z<|Ab<|AL z (fun hc5=>?_) (fun hc5=>?_)
 ·replace hF:=AD hF hc5
  refine AA<|W_drawn 5 z hmix fun w18 hB15=>have hC24:=hC8.grow hB15;wAS (l':=[(1,u2),(4,(I a5)),(7,(ptr b1 0)),(8,(ptr b2 0)),(11,(ptr b3 0)),(13,(ptr b4 0)),(41,(.bool x2)),(44,(ptr b2 3)),(45,(I a4.2.2)),(46,(ptr b1 1)),(47,(I a3.2)),(48,(.bool (!decide (a4.2.2=a3.2))))]) ⟨z,z,z,z,z,z,z,z,z,z,z,z,Ak⟩<|Bq [⟨0,[],fun vs=>Cv (([]:List (Int × (List Int))):(List (Int × (List Int)))),[]⟩,⟨1,[],fun vs=>AR (.agg #[(I x1.1.1),v2,(I x1.2.1),(I x1.2.2)]),[]⟩,⟨2,[49],fun vs=>AR (vs.getD 0 undef),[]⟩] [[],[],[0]] 2 z (by kernel_rfl) (by kernel_rfl) z ?_ ?_
  ·refine Am z ?_ ?_
   ·intro w20 hB17
    refine Aw<|⟨_,z,?_⟩
    refine AN (vs:=[]) (AH w20) Ah ty29 z z z z (by simp) z z (fun b6 w19 hC25 hB16=>?_)
    have hC26:=hC25.row0 (α:=(Int × (List Int)))
    have hC27:=hC26.front 1 z
    dsimp only [List.eraseIdx,List.cons_append,List.nil_append,List.append_nil] at hC27
    have hC28:Ctx [] w20 w19 (Ag (.slice (some ⟨b6,0,none⟩) 0 0) (([]:List (Int × (List Int))):List (Int × (List Int)))::[]):=hC27.rowOwn (by simp [maxLen])
    exact Ab<|CI hC28 z z (fun F h=>h)
   refine Am z ?_ ?_
   ·intro w20 hB17
    refine Aw<|⟨_,z,?_⟩
    exact At [(I x1.1.1),v2,(I x1.2.1),(I x1.2.2)] (hC24.grow hB17) 0 z z z Bp AC z z<|Ab<|A0 (An _ _) z z ⟨z,z⟩
   refine Am z ?_ ?_
   ·intro w20 hB17
    refine A7 z z z fun v4 F3 hv7 _=>Aw<|⟨_,z,?_⟩
    exact Af z z<|Ab<|A0 (An _ _) z z ⟨z,z⟩
   exact Ba
  intro w21 hB18
  refine Au z z z fun v4 F3 hv7=>Au z z z<|?_
  rintro _ _ ⟨rfl,rfl⟩
  refine Au z z z ?_
  rintro _ _ ⟨rfl,rfl⟩
  refine Bh ?_
  intro hn3 hb3
  have hC29:=hC24.pushL hB18 (Bs:=[Ag v4 (([]:List (Int × (List Int))):(List (Int × (List Int))))]) (Fs:=[F3]) ⟨F3,_,z,hv7,z⟩ (by simpa using hn3) (fun b h=>(hb3 b (by simpa using h)).1)
  refine oe 3 z<|Aj (cs':=[(I x1.1.1),v2,(I x1.2.1),(I x1.2.2)]) (new:=[(I x1.1.1),v2,(I x1.2.1),(I x1.2.2)]) hC29 3 z z (fac z<|fac (AT (hC29.ro 2 z))<|fac z<|fac z<|fa0) z AC z z fun w22 hC30 hKp3=>?_
  try dsimp only [List.set] at hC30
  have hk9:=Ar (((hk1.then hB6).then hB15).then hB18) (Ao ((Al hB1).then hB2).size hN3) hKp3
  have hk10:=Ar (((hk2.then hB6).then hB15).then hB18) (Ao (Al hB2).size hN3) hKp3
  have hk11:=Ar (((hk3.then hB6).then hB15).then hB18) hN3 hKp3
  refine Ab<|ta 4 z z z<|dn<|Av<|AK<|A2<|?_
  obtain rfl:=Aa hF
  refine Co z (rv_tmp z) (rv_cell_agg (cs':=[(I x1.1.1),v2,(I x1.2.1),(I x1.2.2)]) hC30 (i:=3) z z z Bp AC z) (rv_tmp z) ?_
  have hC31:=hC30.triv (Bv (2))
  have hC33:=hC31.f3
  have hC32:=BW x1.1.1 v2 x1.1.2 x1.2.1 x1.2.2 hC33
  have hC34:=hC32.f2
  exact ⟨_,z,res3_of hC34⟩
 replace hF:=AE hF hc5
 refine AM<|Av<|AA<|W_drawn 23 z hmix fun w23 hB19=>have hC35:=hC8.grow hB19;tm 0 z z z<|tf 1 Br A9 z z z z z<|tf 2 AV Ax z z z z z<|tf 6 Br A9 z z z z z<|tf 7 AV A4 z z z z z<|tf 9 A5 AG z z z z z<|tf 12 Br Ax z z z z z<|tm 14 z z z<|be hF fun x7 hx1 hF=>be hF fun x8 hr7 hF=>wAS (l':=[(1,u2),(4,(I a5)),(7,(ptr b1 0)),(8,(ptr b2 0)),(11,(ptr b3 0)),(13,(ptr b4 0)),(41,(.bool x2)),(44,(ptr b2 3)),(45,(I a4.2.2)),(46,(ptr b1 1)),(47,(I a3.2)),(48,(.bool (!decide (a4.2.2=a3.2)))),(52,u2),(53,(ptr b2 0)),(54,(ptr b2 0)),(58,(ptr b2 0)),(59,(ptr b2 1)),(61,(ptr b1 0)),(64,(ptr b2 2)),(66,(I a5))]) ⟨z,z,z,z,z,z,z,z,z,z,z,z,z,z,z,z,z,z,z,z,Ak⟩<|Bq [⟨3,[],fun vs=>AR (I a4.1.1),[]⟩,⟨4,[],fun vs=>Cc [] w0 x7,[]⟩,⟨5,[],fun vs=>Cs [] w0 x7,[]⟩,⟨8,[],fun vs=>AR u4,[]⟩,⟨10,[],fun vs=>AR u3,[]⟩,⟨11,[],fun vs=>Cv x8,[]⟩,⟨13,[],fun vs=>AR (I a4.2.1),[]⟩] [[],[3],[4],[],[],[5,8,10],[]] 8 z (by kernel_rfl) (by kernel_rfl) z ?_ ?_
 ·refine Am z ?_ ?_
  ·intro w25 hB21
   refine Aw<|⟨_,z,?_⟩
   exact Aq (hC35.grow hB21) 3 z z A6 z z<|Ab<|A0 (An _ _) z z ⟨z,z⟩
  refine Am z ?_ ?_
  ·intro w25 hB21
   refine A7 z z z ?_
   rintro _ _ ⟨rfl,rfl⟩ _
   refine Aw<|⟨_,z,?_⟩
   exact AZ Bi ty93 g2 hx1 z z z fun b7 o1 h1=>Ab<|A0 (An _ _) z z ⟨z,_,_,z,h1⟩
  refine Am z ?_ ?_
  ·intro w25 hB21
   refine A7 z z z ?_
   rintro _ _ ⟨rfl,b7,o1,rfl,h1⟩ _
   refine Aw<|⟨_,z,?_⟩
   exact Be ty93 h1 (hC35.keep.then hB21) z z fun v7 h4=>Ab<|A0 (An _ _) z z ⟨z,h4⟩
  refine Am z ?_ ?_
  ·intro w25 hB21
   refine Aw<|⟨_,z,?_⟩
   exact Aq (hC35.grow hB21) 3 z z AU z z<|Ab<|A0 (An _ _) z z ⟨z,z⟩
  refine Am z ?_ ?_
  ·intro w25 hB21
   refine Aw<|⟨_,z,?_⟩
   exact Aq (hC35.grow hB21) 4 z z Bk z z<|Ab<|A0 (An _ _) z z ⟨z,z⟩
  refine Am z ?_ ?_
  ·intro w25 hB21
   refine A7 z z z ?_
   rintro v7 _ ⟨rfl,h4⟩ _
   obtain ⟨v6,rfl,h3⟩:=CN h4
   refine A7 z z z ?_
   rintro _ _ ⟨rfl,rfl⟩ _
   refine A7 z z z ?_
   rintro _ _ ⟨rfl,rfl⟩ _
   refine Aw<|⟨_,z,?_⟩
   refine AJ Tryz.call62 z z (c_S_l5Matches x7 v6 (h3.now (hC35.keep.then hB21)) a4.1.2 u4 (g4.now (hC35.keep.then hB21)) a3.1 u3 (g3.now (hC35.keep.then hB21)) x8 hr7) ?_
   rintro v8 w24 ⟨hB20,F4,hv8,hn4,hb4⟩
   exact Ab<|Cq hB20 z z hv8 hn4 hb4 (Val.inh hv8)
  refine Am z ?_ ?_
  ·intro w25 hB21
   refine Aw<|⟨_,z,?_⟩
   exact Aq (hC35.grow hB21) 3 z z A6 z z<|Ab<|A0 (An _ _) z z ⟨z,z⟩
  exact Ba
 intro w26 hB22
 refine Au z z z ?_
 rintro _ _ ⟨rfl,rfl⟩
 refine Au z z z ?_
 rintro _ _ ⟨rfl,b7,o1,rfl,h1⟩
 refine Au z z z ?_
 rintro v7 _ ⟨rfl,h4⟩
 obtain ⟨v6,rfl,h3⟩:=CN h4
 refine Au z z z ?_
 rintro _ _ ⟨rfl,rfl⟩
 refine Au z z z ?_
 rintro _ _ ⟨rfl,rfl⟩
 refine Au z z z fun v8 F4 hv8=>Au z z z<|?_
 rintro _ _ ⟨rfl,rfl⟩
 refine Bh ?_
 intro hn5 hb5
 have hC36:=hC35.pushL hB22 (Bs:=[Ag v8 (x8:(List (Int × (List Int))))]) (Fs:=[F4]) ⟨F4,_,z,hv8,z⟩ (by simpa using hn5) (fun b h=>(hb5 b (by simpa using h)).1)
 refine be hF fun x9 hr8 hF=>oe 15 z<|AJ Tryz.call61 z z (c_S_PageAt x8 v8 ((hC36.ro 0 z).now (B5 _ _)) a4.2.1 a5 x9 hr8)<|?_
 rintro _ w27 ⟨hB23,v9,v10,v11,F5,F6,F7,rfl,hv9,hv10,hv11,hn6,hb6⟩
 obtain ⟨rfl,rfl⟩:=val_int hv10
 obtain ⟨rfl,rfl⟩:=val_bool hv11
 have hC37:=hC36.pushL hB23 (Bs:=[Ag v9 x9.1]) (Fs:=[F5]) ⟨F5,_,z,hv9,z⟩ (by simpa using hn6) (fun b h=>hb6 b (by simpa using h))
 refine Ab<|tm 16 z z z<|tk 17 z z (CA z z)<|Bn z z z<|Ab<|tk 18 z z (CA z z)<|Bn z z z<|Ab<|tk 19 z z (CA z z)<|Bn z z z<|Ab<|ta 20 z z z<|ta 21 z z z<|ta 22 z z z<|dn<|Av<|AA<|Ad<|Ae z z<|B2 z z<|Ab<|AL z (fun hc6=>?_) (fun hc6=>?_)
 ·replace hF:=AD hF hc6
  refine AA<|W_drawn 5 z hmix fun w28 hB24=>have hC38:=hC37.grow hB24;wAS (l':=[(1,u2),(4,(I a5)),(7,(ptr b1 0)),(8,(ptr b2 0)),(11,(ptr b3 0)),(13,(ptr b4 0)),(14,v9),(15,(I x9.2.1)),(16,(.bool x9.2.2)),(41,(.bool x2)),(44,(ptr b2 3)),(45,(I a4.2.2)),(46,(ptr b1 1)),(47,(I a3.2)),(48,(.bool (!decide (a4.2.2=a3.2)))),(51,(.tuple #[v9,(I x9.2.1),(.bool x9.2.2)])),(52,u2),(53,(ptr b2 0)),(54,(ptr b2 0)),(55,(I a4.1.1)),(56,(ptr b7 o1)),(57,(.agg #[(I x7.1),v6,(I x7.2.2.1),(I x7.2.2.2.1),(I x7.2.2.2.2)])),(58,(ptr b2 0)),(59,(ptr b2 1)),(60,u4),(61,(ptr b1 0)),(62,u3),(63,v8),(64,(ptr b2 2)),(65,(I a4.2.1)),(66,(I a5)),(67,(.tuple #[v9,(I x9.2.1),(.bool x9.2.2)])),(68,v9),(69,(I x9.2.1)),(70,(.bool x9.2.2)),(71,(.bool x9.2.2)),(72,(.bool (!x9.2.2)))]) ⟨z,z,z,z,z,z,z,z,z,z,z,z,z,z,z,z,z,z,z,z,z,z,z,z,z,z,z,z,z,z,z,z,z,z,z,z,z,Ak⟩<|Bq [⟨0,[],fun vs=>Cv (([]:List (Int × (List Int))):(List (Int × (List Int)))),[]⟩,⟨1,[],fun vs=>AR (.agg #[(I x1.1.1),v2,(I x1.2.1),(I x1.2.2)]),[]⟩,⟨2,[73],fun vs=>AR (vs.getD 0 undef),[]⟩] [[],[],[0]] 2 z (by kernel_rfl) (by kernel_rfl) z ?_ ?_
  ·refine Am z ?_ ?_
   ·intro w30 hB26
    refine Aw<|⟨_,z,?_⟩
    refine AN (vs:=[]) (AH w30) Ah ty29 z z z z (by simp) z z (fun b8 w29 hC39 hB25=>?_)
    have hC40:=hC39.row0 (α:=(Int × (List Int)))
    have hC41:=hC40.front 1 z
    dsimp only [List.eraseIdx,List.cons_append,List.nil_append,List.append_nil] at hC41
    have hC42:Ctx [] w30 w29 (Ag (.slice (some ⟨b8,0,none⟩) 0 0) (([]:List (Int × (List Int))):List (Int × (List Int)))::[]):=hC41.rowOwn (by simp [maxLen])
    exact Ab<|CI hC42 z z (fun F h=>h)
   refine Am z ?_ ?_
   ·intro w30 hB26
    refine Aw<|⟨_,z,?_⟩
    exact At [(I x1.1.1),v2,(I x1.2.1),(I x1.2.2)] (hC38.grow hB26) 2 z z z Bp AC z z<|Ab<|A0 (An _ _) z z ⟨z,z⟩
   refine Am z ?_ ?_
   ·intro w30 hB26
    refine A7 z z z fun v12 F8 hv12 _=>Aw<|⟨_,z,?_⟩
    exact Af z z<|Ab<|A0 (An _ _) z z ⟨z,z⟩
   exact Ba
  intro w31 hB27
  refine Au z z z fun v12 F8 hv12=>Au z z z<|?_
  rintro _ _ ⟨rfl,rfl⟩
  refine Au z z z ?_
  rintro _ _ ⟨rfl,rfl⟩
  refine Bh ?_
  intro hn7 hb7
  have hC43:=hC38.pushL hB27 (Bs:=[Ag v12 (([]:List (Int × (List Int))):(List (Int × (List Int))))]) (Fs:=[F8]) ⟨F8,_,z,hv12,z⟩ (by simpa using hn7) (fun b h=>(hb7 b (by simpa using h)).1)
  refine oe 3 z<|Aj (cs':=[(I x1.1.1),v2,(I x1.2.1),(I x1.2.2)]) (new:=[(I x1.1.1),v2,(I x1.2.1),(I x1.2.2)]) hC43 5 z z (fac z<|fac (AT (hC43.ro 4 z))<|fac z<|fac z<|fa0) z AC z z fun w32 hC44 hKp4=>?_
  try dsimp only [List.set] at hC44
  have hk12:=Ar ((((((hk1.then hB6).then hB19).then hB22).then hB23).then hB24).then hB27) (Ao ((Al hB1).then hB2).size hN3) hKp4
  have hk13:=Ar ((((((hk2.then hB6).then hB19).then hB22).then hB23).then hB24).then hB27) (Ao (Al hB2).size hN3) hKp4
  have hk14:=Ar ((((((hk3.then hB6).then hB19).then hB22).then hB23).then hB24).then hB27) hN3 hKp4
  refine Ab<|ta 4 z z z<|dn<|Av<|AK<|A2<|?_
  obtain rfl:=Aa hF
  refine Co z (rv_tmp z) (rv_cell_agg (cs':=[(I x1.1.1),v2,(I x1.2.1),(I x1.2.2)]) hC44 (i:=5) z z z Bp AC z) (rv_tmp z) ?_
  have hC45:=hC44.triv (Bv (3))
  have hC47:=hC45.f5
  have hC46:=BW x1.1.1 v2 x1.1.2 x1.2.1 x1.2.2 hC47
  have hC48:=hC46.f2
  exact ⟨_,z,res3_of hC48⟩
 replace hF:=AE hF hc6
 refine AM<|Av<|Ad<|Ae z z<|fd Br Ax z z z z<|Bc (cs':=[(I x1.1.1),v2,(I x9.2.1),(I x1.2.2)]) hC37 2 z z z z Ax z z fun w33 hC49 hKp5=>?_
 try dsimp only [List.set] at hC49
 have hk15:=Ar ((((hk1.then hB6).then hB19).then hB22).then hB23) (Ao ((((Al hB1).then hB2).then hB3).then hB4).size hN4) hKp5
 have hk16:=Ar ((((hk2.then hB6).then hB19).then hB22).then hB23) (Ao (((Al hB2).then hB3).then hB4).size hN4) hKp5
 have hk17:=Ar ((((hk3.then hB6).then hB19).then hB22).then hB23) (Ao ((Al hB3).then hB4).size hN4) hKp5
 have hk18:=Ar ((((hk4.then hB6).then hB19).then hB22).then hB23) (Ao (Al hB4).size hN4) hKp5
 have hk19:=Ar ((((hk5.then hB6).then hB19).then hB22).then hB23) hN4 hKp5
 refine Ab<|AA<|AA<|W_drawn 15 z hmix fun w34 hB28=>have hC50:=hC49.grow hB28;tm 0 z z z<|tm 1 z z z<|tf 2 Br A9 z z z z z<|tf 3 AV Ax z z z z z<|tf 7 Br A9 z z z z z<|tf 8 AV A4 z z z z z<|tf 10 A5 AG z z z z z<|be hF fun x10 hx2 hF=>wAS (l':=[(1,u2),(4,(I a5)),(7,(ptr b1 0)),(8,(ptr b2 0)),(11,(ptr b3 0)),(13,(ptr b4 0)),(14,v9),(15,(I x9.2.1)),(16,(.bool x9.2.2)),(41,(.bool x2)),(44,(ptr b2 3)),(45,(I a4.2.2)),(46,(ptr b1 1)),(47,(I a3.2)),(48,(.bool (!decide (a4.2.2=a3.2)))),(51,(.tuple #[v9,(I x9.2.1),(.bool x9.2.2)])),(52,u2),(53,(ptr b2 0)),(54,(ptr b2 0)),(55,(I a4.1.1)),(56,(ptr b7 o1)),(57,(.agg #[(I x7.1),v6,(I x7.2.2.1),(I x7.2.2.2.1),(I x7.2.2.2.2)])),(58,(ptr b2 0)),(59,(ptr b2 1)),(60,u4),(61,(ptr b1 0)),(62,u3),(63,v8),(64,(ptr b2 2)),(65,(I a4.2.1)),(66,(I a5)),(67,(.tuple #[v9,(I x9.2.1),(.bool x9.2.2)])),(68,v9),(69,(I x9.2.1)),(70,(.bool x9.2.2)),(71,(.bool x9.2.2)),(72,(.bool (!x9.2.2))),(75,(I x9.2.1)),(76,(ptr b4 2)),(77,(I x9.2.1)),(78,u2),(79,(ptr b2 0)),(80,(ptr b2 0)),(84,(ptr b2 0)),(85,(ptr b2 1)),(87,(ptr b1 0))]) ⟨z,z,z,z,z,z,z,z,z,z,z,z,z,z,z,z,z,z,z,z,z,z,z,z,z,z,z,z,z,z,z,z,z,z,z,z,z,z,z,z,z,z,z,z,z,z,Ak⟩<|Bq [⟨4,[],fun vs=>AR (I a4.1.1),[]⟩,⟨5,[],fun vs=>Cc [] w0 x10,[]⟩,⟨6,[],fun vs=>Cs [] w0 x10,[]⟩,⟨9,[],fun vs=>AR u4,[]⟩,⟨11,[],fun vs=>AR u3,[]⟩] [[],[4],[5],[],[]] 3 z (by kernel_rfl) (by kernel_rfl) z ?_ ?_
 ·refine Am z ?_ ?_
  ·intro w35 hB29
   refine Aw<|⟨_,z,?_⟩
   exact Aq (hC50.grow hB29) 5 z z A6 z z<|Ab<|A0 (An _ _) z z ⟨z,z⟩
  refine Am z ?_ ?_
  ·intro w35 hB29
   refine A7 z z z ?_
   rintro _ _ ⟨rfl,rfl⟩ _
   refine Aw<|⟨_,z,?_⟩
   exact AZ Bi ty93 g2 hx2 z z z fun b9 o2 h5=>Ab<|A0 (An _ _) z z ⟨z,_,_,z,h5⟩
  refine Am z ?_ ?_
  ·intro w35 hB29
   refine A7 z z z ?_
   rintro _ _ ⟨rfl,b9,o2,rfl,h5⟩ _
   refine Aw<|⟨_,z,?_⟩
   exact Be ty93 h5 (hC50.keep.then hB29) z z fun v15 h8=>Ab<|A0 (An _ _) z z ⟨z,h8⟩
  refine Am z ?_ ?_
  ·intro w35 hB29
   refine Aw<|⟨_,z,?_⟩
   exact Aq (hC50.grow hB29) 5 z z AU z z<|Ab<|A0 (An _ _) z z ⟨z,z⟩
  refine Am z ?_ ?_
  ·intro w35 hB29
   refine Aw<|⟨_,z,?_⟩
   exact Aq (hC50.grow hB29) 6 z z Bk z z<|Ab<|A0 (An _ _) z z ⟨z,z⟩
  exact Ba
 intro w36 hB30
 refine Au z z z ?_
 rintro _ _ ⟨rfl,rfl⟩
 refine Au z z z ?_
 rintro _ _ ⟨rfl,b9,o2,rfl,h5⟩
 refine Au z z z ?_
 rintro v15 _ ⟨rfl,h8⟩
 obtain ⟨v14,rfl,h7⟩:=CN h8
 refine Au z z z ?_
 rintro _ _ ⟨rfl,rfl⟩
 refine Au z z z ?_
 rintro _ _ ⟨rfl,rfl⟩
 refine Bh fun hn8 hb8=>have hC51:=hC50.grow hB30;be hF fun x11 hr9 hF=>oe 12 z<|AJ Tryz.call62 z z (c_S_l5Matches x10 v14 (h7.now hC51.keep) a4.1.2 u4 (g4.now hC51.keep) a3.1 u3 (g3.now hC51.keep) x11 hr9)<|?_
 rintro v16 w37 ⟨hB31,F9,hv13,hn9,hb9⟩
 have hC52:=hC51.push hB31 (A:=Ag v16 x11) hv13 hn9 hb9
 refine Ab<|tk 13 z z (CO Ah (hC52.ro 0 z) z)<|Bo Ah (hC52.ro 0 z) z z<|Ab<|tk 14 z z (fl_eql z z)<|BP z z z<|Ab<|dn<|Av<|AL z (fun hc7=>?_) (fun hc7=>?_)
 ·replace hF:=AD hF hc7
  refine AA<|W_drawn 5 z hmix fun w38 hB32=>have hC53:=hC52.grow hB32;tm 0 z z z<|ta 2 z z z<|oe 1 z<|At [(I x1.1.1),v2,(I x9.2.1),(I x1.2.2)] hC53 3 z z z Bp AC z z<|Ab<|oe 3 z<|Aj (cs':=[(I x1.1.1),v2,(I x9.2.1),(I x1.2.2)]) (new:=[(I x1.1.1),v2,(I x9.2.1),(I x1.2.2)]) hC53 5 z z (fac z<|fac (AT (hC53.ro 4 z))<|fac z<|fac z<|fa0) z AC z z fun w39 hC54 hKp6=>?_
  try dsimp only [List.set] at hC54
  have hk20:=Ar ((((hk15.then hB28).then hB30).then hB31).then hB32) (Ao ((Al hB1).then hB2).size hN3) hKp6
  have hk21:=Ar ((((hk16.then hB28).then hB30).then hB31).then hB32) (Ao (Al hB2).size hN3) hKp6
  have hk22:=Ar ((((hk17.then hB28).then hB30).then hB31).then hB32) hN3 hKp6
  refine Ab<|ta 4 z z z<|dn<|Av<|AK<|A2<|?_
  obtain rfl:=Aa hF
  refine Co z (rv_tmp z) (rv_cell_agg (cs':=[(I x1.1.1),v2,(I x9.2.1),(I x1.2.2)]) hC54 (i:=5) z z z Bp AC z) (rv_tmp z) ?_
  have hC55:=hC54.triv (Bv (1))
  have hC57:=hC55.f5
  have hC56:=BW x1.1.1 v2 x1.1.2 x9.2.1 x1.2.2 hC57
  have hC58:=hC56.f3
  exact ⟨_,z,res3_of hC58⟩
 replace hF:=AE hF hc7
 refine AM<|Av<|AA<|W_drawn 5 z hmix fun w40 hB33=>have hC59:=hC52.grow hB33;tm 0 z z z<|ta 2 z z z<|oe 1 z<|At [(I x1.1.1),v2,(I x9.2.1),(I x1.2.2)] hC59 3 z z z Bp AC z z<|Ab<|oe 3 z<|Aj (cs':=[(I x1.1.1),v2,(I x9.2.1),(I x1.2.2)]) (new:=[(I x1.1.1),v2,(I x9.2.1),(I x1.2.2)]) hC59 5 z z (fac z<|fac (AT (hC59.ro 4 z))<|fac z<|fac z<|fa0) z AC z z fun w41 hC60 hKp7=>?_
 try dsimp only [List.set] at hC60
 have hk23:=Ar ((((hk15.then hB28).then hB30).then hB31).then hB33) (Ao ((Al hB1).then hB2).size hN3) hKp7
 have hk24:=Ar ((((hk16.then hB28).then hB30).then hB31).then hB33) (Ao (Al hB2).size hN3) hKp7
 have hk25:=Ar ((((hk17.then hB28).then hB30).then hB31).then hB33) hN3 hKp7
 refine Ab<|ta 4 z z z<|dn<|Av<|AK<|?_
 obtain rfl:=Aa hF
 refine Co z (rv_tmp z) (rv_cell_agg (cs':=[(I x1.1.1),v2,(I x9.2.1),(I x1.2.2)]) hC60 (i:=5) z z z Bp AC z) (rv_tmp z) ?_
 have hC61:=hC60.triv (Bv (0))
 have hC63:=hC61.f5
 have hC62:=BW x1.1.1 v2 x1.1.2 x9.2.1 x1.2.2 hC63
 have hC64:=hC62.f3
 exact ⟨_,z,res3_of hC64⟩
theorem c_S_ReadThrough {w0:World} (a1:(List Int)) (u1:Value) (g1:RO [] w0 u1 a1) (a2:(List (Int × (List Int) × Int × Int × Int))) (u2:Value) (g2:RO [] w0 u2 a2) (a3:((List (Int × (List Int))) × Int)) (u3:Value) (g3:RO [] w0 u3 a3.1) (a4:(Int × (List Int))) (u4:Value) (g4:RO [] w0 u4 a4.2) (a5:Int) (a6:(List (Bool × (Int × (List Int))))) (u5:Value) (g5:RO [] w0 u5 a6) (a7:Int) (rr:(((List (Int × (List Int))) × Int × Int × Int × Bool) × ((List (Int × (List Int))) × Int))) (hF:S.ReadThrough a1 a2 a3 a4 a5 a6 a7=some rr) :
 Calls Tryz.prog 24 [u1,u2,(.agg #[u3,(I a3.2)]),(.agg #[(I a4.1),u4]),(I a5),u5,(I a7)].toArray w0 fun e w'=>∃v,e=.returned v∧Res2 w0 rr.1 rr.2 v w':=by
 refine A3 Tryz.func24 z z ?_
 have hC0:=AH w0
 unfold S.ReadThrough at hF
 refine Ad<|Bz (cs:=[u3,(I a3.2)]) hC0 z z z fun b1 w1 hC1 hB1 hN1=>Bz (cs:=[(I a4.1),u4]) hC1 z z z fun b2 w2 hC2 hB2 hN2=>Bd hC2 zero59 z z fun b3 w3 hC3 hB3 hN3=>Bd hC3 zero27 z z fun b4 w4 hC4 hB4 hN4=>Ab<|Ad<|BD (vs:=[]) z z z built59<|Bd hC4 zero59 z z fun b5 w5 hC5 hB5 hN5=>Aj (cs':=[(.slice none 0 0),(I 0),(I 0),(I 0),(.bool false)]) (new:=[(.slice none 0 0),(I 0),(I 0),(I 0),(.bool false)]) hC5 0 z z (fac z<|fac z<|fac z<|fac z<|fac z<|fa0) z Bj z z fun w6 hC6 hKp1=>?_
 try dsimp only [List.set] at hC6
 have hk1:=Ar (((((Al hB1).then hB2).then hB3).then hB4).then hB5) (Ao ((((Al hB1).then hB2).then hB3).then hB4).size hN5) hKp1
 have hk2:=Ar ((((Al hB2).then hB3).then hB4).then hB5) (Ao (((Al hB2).then hB3).then hB4).size hN5) hKp1
 have hk3:=Ar (((Al hB3).then hB4).then hB5) (Ao ((Al hB3).then hB4).size hN5) hKp1
 have hk4:=Ar ((Al hB4).then hB5) (Ao (Al hB4).size hN5) hKp1
 have hk5:=Ar (Al hB5) hN5 hKp1
 refine Ab<|Ad<|At [u3,(I a3.2)] hC6 4 z z z A8 Az z z<|be hF fun x1 hr1 hF=>AJ Tryz.call39 z z (c_S_l25Copy (a3.1,a3.2) u3 (g3.now hC6.keep) x1 hr1)<|?_
 rintro v1 w7 ⟨hB6,F1,hv1,hn1,hb1⟩
 have hC7:=hC6.push hB6 (A:=Ag v1 x1) hv1 hn1 hb1
 obtain ⟨v2,rfl,hC8⟩:=st27_own hC7
 refine Bd hC8 zero27 z z fun b6 w9 hC9 hB7 hN6=>Aj (cs':=[v2,(I x1.2)]) (new:=[v2,(I x1.2)]) hC9 0 z z (fac (AT (hC9.ro 1 z))<|fac z<|fa0) z Az z z fun w10 hC10 hKp2=>?_
 try dsimp only [List.set] at hC10
 have hk6:=Ar ((hk1.then hB6).then hB7) (Ao (hk1.then hB6).size hN6) hKp2
 have hk7:=Ar ((hk2.then hB6).then hB7) (Ao (hk2.then hB6).size hN6) hKp2
 have hk8:=Ar ((hk3.then hB6).then hB7) (Ao (hk3.then hB6).size hN6) hKp2
 have hk9:=Ar ((hk4.then hB6).then hB7) (Ao (hk4.then hB6).size hN6) hKp2
 have hk10:=Ar ((hk5.then hB6).then hB7) (Ao (hk5.then hB6).size hN6) hKp2
 have hk11:=Ar ((Al hB6).then hB7) (Ao (Al hB6).size hN6) hKp2
 have hk12:=Ar (Al hB7) hN6 hKp2
 refine Ab<|Ad<|Ae z z<|Ae z z<|At [u3,(I a3.2)] hC10 6 z z z A8 Az z z<|At [(I a4.1),u4] hC10 5 z z z Bl A9 z z<|be hF fun x2 hr2 hF=>AJ Tryz.call18 z z (c_S_OpenCursor a1 u1 (g1.now hC10.keep) a2 u2 (g2.now hC10.keep) (a3.1,a3.2) u3 (g3.now hC10.keep) (a4.1,a4.2) u4 (g4.now hC10.keep) x2 hr2)<|?_
 rintro _ w11 ⟨hB8,v3,v4,F2,F3,rfl,hv2,hv3,hn2,hb2⟩
 obtain ⟨rfl,rfl⟩:=val_bool hv3
 have hC11:=hC10.pushL hB8 (Bs:=[Ag v3 x2.1]) (Fs:=[F2]) ⟨F2,_,z,hv2,z⟩ (by simpa using hn2) (fun b h=>hb2 b (by simpa using h))
 obtain ⟨v5,rfl,hC12⟩:=st49_own hC11
 refine Ae z z<|Bn z z z<|Bn z z z<|Bd hC12 zero49 z z fun b7 w12 hC13 hB9 hN7=>Aj (cs':=[(I x2.1.1.1),v5,(I x2.1.2.1),(I x2.1.2.2)]) (new:=[(I x2.1.1.1),v5,(I x2.1.2.1),(I x2.1.2.2)]) hC13 0 z z (fac z<|fac (AT (hC13.ro 1 z))<|fac z<|fac z<|fa0) z AC z z fun w13 hC14 hKp3=>?_
 try dsimp only [List.set] at hC14
 have hk13:=Ar ((hk6.then hB8).then hB9) (Ao (hk6.then hB8).size hN7) hKp3
 have hk14:=Ar ((hk7.then hB8).then hB9) (Ao (hk7.then hB8).size hN7) hKp3
 have hk15:=Ar ((hk8.then hB8).then hB9) (Ao (hk8.then hB8).size hN7) hKp3
 have hk16:=Ar ((hk9.then hB8).then hB9) (Ao (hk9.then hB8).size hN7) hKp3
 have hk17:=Ar ((hk10.then hB8).then hB9) (Ao (hk10.then hB8).size hN7) hKp3
 have hk18:=Ar ((hk11.then hB8).then hB9) (Ao (hk11.then hB8).size hN7) hKp3
 have hk19:=Ar ((hk12.then hB8).then hB9) (Ao (hk12.then hB8).size hN7) hKp3
 have hk20:=Ar ((Al hB8).then hB9) (Ao (Al hB8).size hN7) hKp3
 have hk21:=Ar (Al hB9) hN7 hKp3
 refine Af z z<|Ab<|AA<|be hF fun r1 hr3 hF=>BL (fun l w=>∃x3:Bool,x3=r1∧l=[(0,u1),(1,u2),(4,(I a5)),(5,u5),(6,(I a7)),(10,(ptr b2 0)),(14,(ptr b3 0)),(15,(ptr b4 0)),(16,(ptr b5 0)),(17,(ptr b6 0)),(18,(ptr b7 0)),(48,(.bool x3))]∧Below w13.heap.size w13 w∧Ctx [] w0 w [Ac b7 [(I x2.1.1.1),v5,(I x2.1.2.1),(I x2.1.2.2)],Ag v5 (x2.1.1.2:(List Int)),Ac b6 [v2,(I x1.2)],Ag v2 (x1.1:(List (Int × (List Int)))),Ac b5 [(.slice none 0 0),(I 0),(I 0),(I 0),(.bool false)],Ac b4 [(.slice none 0 0),(I 0)],Ac b3 [(.slice none 0 0),(I 0),(I 0),(I 0),(.bool false)],Ac b2 [(I a4.1),u4]]) ?_ ?_
 ·refine Bt<|Ae z z<|B2 z z<|Ae z z<|B3 (fun hc1=>?_) (fun hc1=>?_)
  ·replace hr3:=AD hr3 hc1
   refine gs z z z z<|gs z z z z<|gs z z z z<|AI z z z<|Ae z z<|gs z z z z<|gs z z z z<|gs z z z z<|AI z z z<|Ab<|?_
   obtain rfl:=Aa hr3
   have hC16:=hC14.f7
   have hC17:=hC16.f7
   have hC18:=hC17.f7
   have hC19:=hC18.f7
   have hC20:=hC19.f7
   have hC21:=hC20.f7
   have hC22:=hC21.f7
   have hC23:=hC22.f7
   have hC24:=hC23.h8
   exact Ay (l':=[(0,u1),(1,u2),(4,(I a5)),(5,u5),(6,(I a7)),(10,(ptr b2 0)),(14,(ptr b3 0)),(15,(ptr b4 0)),(16,(ptr b5 0)),(17,(ptr b6 0)),(18,(ptr b7 0)),(48,(.bool true))]) ⟨z,z,z,z,z,z,z,z,z,z,z,z,Ak⟩<|⟨true,z,z,(An _ _),hC24⟩
  replace hr3:=AE hr3 hc1
  refine Ai z z<|Ae z z<|be hr3 fun x4 hr4 hr3=>Ai z z<|cb B9 z z (c_S_l1In a5 1 9 x4 hr4) fun w15 hB11=>have hC25:=hC14.grow hB11;Ai z z<|B2 z z<|AY z z z<|Ae z z<|B3 (fun hc2=>?_) (fun hc2=>?_)
  ·replace hr3:=AD hr3 hc2
   refine gs z z z z<|gs z z z z<|gs z z z z<|AI z z z<|Ab<|?_
   obtain rfl:=Aa hr3
   have hC26:=hC25.f7
   have hC27:=hC26.f7
   have hC28:=hC27.f7
   have hC29:=hC28.f7
   have hC30:=hC29.f7
   have hC31:=hC30.f7
   have hC32:=hC31.f7
   have hC33:=hC32.f7
   have hC34:=hC33.h8
   exact Ay (l':=[(0,u1),(1,u2),(4,(I a5)),(5,u5),(6,(I a7)),(10,(ptr b2 0)),(14,(ptr b3 0)),(15,(ptr b4 0)),(16,(ptr b5 0)),(17,(ptr b6 0)),(18,(ptr b7 0)),(48,(.bool true))]) ⟨z,z,z,z,z,z,z,z,z,z,z,z,Ak⟩<|⟨true,z,z,(Al hB11).below,hC34⟩
  replace hr3:=AE hr3 hc2
  refine Ai z z<|Ae z z<|be hr3 fun x5 hr5 hr3=>Ai z z<|cb B9 z z (c_S_l1In a7 0 20 x5 hr5) fun w16 hB12=>have hC35:=hC25.grow hB12;Ai z z<|B2 z z<|AY z z z<|Ab<|?_
  obtain rfl:=Aa hr3
  have hC36:=hC35.f7
  have hC37:=hC36.f7
  have hC38:=hC37.f7
  have hC39:=hC38.f7
  have hC40:=hC39.f7
  have hC41:=hC40.f7
  have hC42:=hC41.f7
  have hC43:=hC42.f7
  have hC44:=hC43.h8
  exact Ay (l':=[(0,u1),(1,u2),(4,(I a5)),(5,u5),(6,(I a7)),(10,(ptr b2 0)),(14,(ptr b3 0)),(15,(ptr b4 0)),(16,(ptr b5 0)),(17,(ptr b6 0)),(18,(ptr b7 0)),(48,(.bool (!x5)))]) ⟨z,z,z,z,z,z,z,z,z,z,z,z,Ak⟩<|⟨(!x5),z,z,((Al hB11).then hB12).below,hC44⟩
 rintro _ w14 ⟨x3,rfl,rfl,hB10,hC15⟩
 try dsimp only at hF
 refine AL z (fun hc3=>?_) (fun hc3=>?_)
 ·replace hF:=AD hF hc3
  refine be hF fun r2 hr6 hF=>BL (fun l w=>∃v6:Value,∃x6:(List (Int × (List Int))),∃x7:Int,∃v7:Value,∃x8:(List (Int × (List Int))),∃x9:Int,∃x10:Int,∃x11:Int,∃x12:Bool,(x6,x7,x8,x9,x10,x11,x12)=r2∧l=[(14,(ptr b3 0)),(15,(ptr b4 0))]∧Ctx [] w0 w [Ag v7 (x8:(List (Int × (List Int)))),Ag v6 (x6:(List (Int × (List Int)))),Ac b4 [v6,(I x7)],Ac b3 [v7,(I x9),(I x10),(I x11),(.bool x12)]]) ?_ ?_
  ·refine W_drawn 4 z hmix fun w18 hB14=>have hC46:=hC15.grow hB14;wAS (l':=[(0,u1),(1,u2),(4,(I a5)),(5,u5),(6,(I a7)),(10,(ptr b2 0)),(14,(ptr b3 0)),(15,(ptr b4 0)),(16,(ptr b5 0)),(17,(ptr b6 0)),(18,(ptr b7 0)),(48,(.bool x3))]) ⟨z,z,z,z,z,z,z,z,z,z,z,z,Ak⟩<|C6 [⟨0,[],fun vs=>AR (.agg #[(.slice none 0 0),(I 0),(I 0),(I 0),(.bool false)]),[]⟩,⟨1,[],fun vs=>AR (.agg #[v2,(I x1.2)]),[]⟩] [[],[]] [1] 2 z (by kernel_rfl) (by kernel_rfl) ?_ ⟨?_,?_,Ak⟩
   ·refine Am z ?_ ?_
    ·intro w19 hB15
     refine Aw<|⟨_,z,?_⟩
     exact At [(.slice none 0 0),(I 0),(I 0),(I 0),(.bool false)] (hC46.grow hB15) 4 z z z BT Bj z z<|Ab<|A0 (An _ _) z z ⟨z,z⟩
    refine Am z ?_ ?_
    ·intro w19 hB15
     refine Aw<|⟨_,z,?_⟩
     exact At [v2,(I x1.2)] (hC46.grow hB15) 2 z z z A8 Az z z<|Ab<|A0 (An _ _) z z ⟨z,z⟩
    exact Ba
   ·intro g' hg'
    obtain rfl:g'=2:=hg'
    intro w20 hB16
    refine Au z z z ?_
    rintro _ _ ⟨rfl,rfl⟩
    refine Au z z z ?_
    rintro _ _ ⟨rfl,rfl⟩
    refine Bh fun hn3 hb3=>have hC47:=hC46.grow hB16;oe 2 z<|Aj (cs':=[(.slice none 0 0),(I 0),(I 0),(I 0),(.bool false)]) (new:=[(.slice none 0 0),(I 0),(I 0),(I 0),(.bool false)]) hC47 6 z z (fac z<|fac z<|fac z<|fac z<|fac z<|fa0) z Bj z z fun w21 hC48 hKp4=>?_
    try dsimp only [List.set] at hC48
    have hk22:=Ar (((hk13.then hB10).then hB14).then hB16) (Ao ((Al hB1).then hB2).size hN3) hKp4
    have hk23:=Ar (((hk14.then hB10).then hB14).then hB16) (Ao (Al hB2).size hN3) hKp4
    have hk24:=Ar (((hk15.then hB10).then hB14).then hB16) hN3 hKp4
    refine Ab<|oe 3 z<|Aj (cs':=[v2,(I x1.2)]) (new:=[v2,(I x1.2)]) hC48 5 z z (fac (AT (hC48.ro 3 z))<|fac z<|fa0) z Az z z fun w22 hC49 hKp5=>?_
    try dsimp only [List.set] at hC49
    have hk25:=Ar hk22 (Ao (((Al hB1).then hB2).then hB3).size hN4) hKp5
    have hk26:=Ar hk23 (Ao ((Al hB2).then hB3).size hN4) hKp5
    have hk27:=Ar hk24 (Ao (Al hB3).size hN4) hKp5
    refine Ab<|dn<|?_
    obtain rfl:=Aa hr6
    have hC50:=hC49.triv (nil_val (α:=(Int × (List Int))))
    have hC51:=hC50.f7
    have hC52:=hC51.f7
    have hC53:=hC52.f6
    have hC54:=hC53.f3
    have hC55:=hC54.h4
    exact Ay (l':=[(14,(ptr b3 0)),(15,(ptr b4 0))]) ⟨z,z,Ak⟩<|⟨v2,x1.1,x1.2,(.slice none 0 0),[],0,0,0,false,z,z,hC55⟩
   intro g' hg'
   obtain rfl:g'=3:=hg'
   intro w20 hB16
   refine Au z z z ?_
   rintro _ _ ⟨rfl,rfl⟩
   refine Bh fun hn3 hb3=>have hC47:=hC46.grow hB16;Ci (i:=1) (j:=2) (by kernel_rfl) z z ?_ ?_
   ·refine At [v2,(I x1.2)] hC47 2 z z z A8 Az z z<|Ab<|oe 2 z<|Aj (cs':=[(.slice none 0 0),(I 0),(I 0),(I 0),(.bool false)]) (new:=[(.slice none 0 0),(I 0),(I 0),(I 0),(.bool false)]) hC47 6 z z (fac z<|fac z<|fac z<|fac z<|fac z<|fa0) z Bj z z fun w21 hC48 hKp4=>?_
    try dsimp only [List.set] at hC48
    have hk22:=Ar (((hk13.then hB10).then hB14).then hB16) (Ao ((Al hB1).then hB2).size hN3) hKp4
    have hk23:=Ar (((hk14.then hB10).then hB14).then hB16) (Ao (Al hB2).size hN3) hKp4
    have hk24:=Ar (((hk15.then hB10).then hB14).then hB16) hN3 hKp4
    refine Ab<|oe 3 z<|Aj (cs':=[v2,(I x1.2)]) (new:=[v2,(I x1.2)]) hC48 5 z z (fac (AT (hC48.ro 3 z))<|fac z<|fa0) z Az z z fun w22 hC49 hKp5=>?_
    try dsimp only [List.set] at hC49
    have hk25:=Ar hk22 (Ao (((Al hB1).then hB2).then hB3).size hN4) hKp5
    have hk26:=Ar hk23 (Ao ((Al hB2).then hB3).size hN4) hKp5
    have hk27:=Ar hk24 (Ao (Al hB3).size hN4) hKp5
    refine Ab<|dn<|?_
    obtain rfl:=Aa hr6
    have hC50:=hC49.triv (nil_val (α:=(Int × (List Int))))
    have hC51:=hC50.f7
    have hC52:=hC51.f7
    have hC53:=hC52.f6
    have hC54:=hC53.f3
    have hC55:=hC54.h4
    exact Ay (l':=[(14,(ptr b3 0)),(15,(ptr b4 0))]) ⟨z,z,Ak⟩<|⟨v2,x1.1,x1.2,(.slice none 0 0),[],0,0,0,false,z,z,hC55⟩
   refine Aj (cs':=[(.slice none 0 0),(I 0),(I 0),(I 0),(.bool false)]) (new:=[(.slice none 0 0),(I 0),(I 0),(I 0),(.bool false)]) hC47 6 z z (fac z<|fac z<|fac z<|fac z<|fac z<|fa0) z Bj z z (fun w21 hC48 hKp4=>?_)
   try dsimp only [List.set] at hC48
   have hk22:=Ar (((hk13.then hB10).then hB14).then hB16) (Ao ((Al hB1).then hB2).size hN3) hKp4
   have hk23:=Ar (((hk14.then hB10).then hB14).then hB16) (Ao (Al hB2).size hN3) hKp4
   have hk24:=Ar (((hk15.then hB10).then hB14).then hB16) hN3 hKp4
   refine Ab<|oe 1 z<|At [v2,(I x1.2)] hC48 2 z z z A8 Az z z<|Ab<|oe 3 z<|Aj (cs':=[v2,(I x1.2)]) (new:=[v2,(I x1.2)]) hC48 5 z z (fac (AT (hC48.ro 3 z))<|fac z<|fa0) z Az z z fun w22 hC49 hKp5=>?_
   try dsimp only [List.set] at hC49
   have hk25:=Ar hk22 (Ao (((Al hB1).then hB2).then hB3).size hN4) hKp5
   have hk26:=Ar hk23 (Ao ((Al hB2).then hB3).size hN4) hKp5
   have hk27:=Ar hk24 (Ao (Al hB3).size hN4) hKp5
   refine Ab<|dn<|?_
   obtain rfl:=Aa hr6
   have hC50:=hC49.triv (nil_val (α:=(Int × (List Int))))
   have hC51:=hC50.f7
   have hC52:=hC51.f7
   have hC53:=hC52.f6
   have hC54:=hC53.f3
   have hC55:=hC54.h4
   exact Ay (l':=[(14,(ptr b3 0)),(15,(ptr b4 0))]) ⟨z,z,Ak⟩<|⟨v2,x1.1,x1.2,(.slice none 0 0),[],0,0,0,false,z,z,hC55⟩
  rintro _ w17 ⟨v6,x6,x7,v7,x8,x9,x10,x11,x12,rfl,rfl,hC45⟩
  try dsimp only at hF
  refine AK (A2 ?_)
  obtain rfl:=Aa hF
  refine BZ z (rv_cell_agg (cs':=[v7,(I x9),(I x10),(I x11),(.bool x12)]) hC45 (i:=3) z z z BT Bj z) (rv_cell_agg (cs':=[v6,(I x7)]) hC45 (i:=2) z z z A8 Az z)<|have hC57:=hC45.f1;?_
  have hC56:=Cb v6 x6 x7 hC57
  have hC59:=hC56.f1
  have hC58:=CM v7 x8 x9 x10 x11 x12 hC59
  exact ⟨_,z,res2_of hC58⟩
 replace hF:=AE hF hc3
 refine AM<|Av<|Ad<|Af z z<|Ab<|be hF fun r3 hr7 hF=>Bx (fun _ _=>False) ?_ ?_
 ·refine Bb ?_
  have hC185:=hC15.triv (nil_val (α:=(Int × (List Int))))
  have hC186:=hC185.triv (nil_val (α:=(Int × (List Int))))
  have hC187:=hC186.triv (nil_val (α:=(Int × (List Int))))
  have hC188:=hC187.f10
  have hC189:=hC188.f10
  have hC190:=hC189.f10
  have hC191:=hC190.f10
  have hC192:=hC191.f10
  have hC193:=hC192.f10
  have hC194:=hC193.f10
  have hC195:=hC194.f10
  have hC196:=hC195.f8
  have hC197:=hC196.f9
  have hC198:=hC197.f10
  refine wS (l':=[(0,u1),(1,u2),(4,(I a5)),(5,u5),(6,(I a7)),(10,(ptr b2 0)),(14,(ptr b3 0)),(15,(ptr b4 0)),(16,(ptr b5 0)),(17,(ptr b6 0)),(18,(ptr b7 0)),(20,(I 0))]) ⟨z,z,z,z,z,z,z,z,z,z,z,z,Ak⟩<|BE (fun k l w=>∃x13:Int,∃v8:Value,∃x14:(List Int),∃x15:Int,∃x16:Int,∃v9:Value,∃x17:(List (Int × (List Int))),∃x18:Int,∃v10:Value,∃x19:(List (Int × (List Int))),∃x20:Int,∃x21:Int,∃x22:Int,∃x23:Bool,∃v11:Value,∃x24:(List (Int × (List Int))),∃x25:Int,∃v12:Value,∃x26:(List (Int × (List Int))),∃x27:Int,∃x28:Int,∃x29:Int,∃x30:Bool,∃x31:Int,l=[(0,u1),(1,u2),(4,(I a5)),(5,u5),(6,(I a7)),(10,(ptr b2 0)),(14,(ptr b3 0)),(15,(ptr b4 0)),(16,(ptr b5 0)),(17,(ptr b6 0)),(18,(ptr b7 0)),(20,(I x31))]∧Ctx [] w0 w [Ag v12 (x26:(List (Int × (List Int)))),Ag v11 (x24:(List (Int × (List Int)))),Ag v10 (x19:(List (Int × (List Int)))),Ac b7 [(I x13),v8,(I x15),(I x16)],Ag v8 (x14:(List Int)),Ac b6 [v9,(I x18)],Ag v9 (x17:(List (Int × (List Int)))),Ac b5 [v10,(I x20),(I x21),(I x22),(.bool x23)],Ac b4 [v11,(I x25)],Ac b3 [v12,(I x27),(I x28),(I x29),(.bool x30)],Ac b2 [(I a4.1),u4]]∧S.ReadThrough_l1 a1 a2 a5 a7 a4 a6 k x13 x14 x15 x16 x17 x18 x19 x20 x21 x22 x23 x24 x25 x26 x27 x28 x29 x30 x31=some r3) FUEL ⟨x2.1.1.1,v5,x2.1.1.2,x2.1.2.1,x2.1.2.2,v2,x1.1,x1.2,(.slice none 0 0),[],0,0,0,false,(.slice none 0 0),[],0,(.slice none 0 0),[],0,0,0,false,0,z,hC198,hr7⟩<|?_
  clear hr7
  rintro k1 _ w23 ⟨x13,v8,x14,x15,x16,v9,x17,x18,v10,x19,x20,x21,x22,x23,v11,x24,x25,v12,x26,x27,x28,x29,x30,x31,rfl,hC60,hL1⟩
  cases k1 with
  | zero=>rw [S.ReadThrough_l1] at hL1; cases hL1
  | succ k1 =>
   rw [S.ReadThrough_l1] at hL1
   refine Bb<|Ad<|Ae z z<|Ae z z<|At [v9,(I x18)] hC60 5 z z z A8 Az z z<|At [(I x13),v8,(I x15),(I x16)] hC60 3 z z z Bp AC z z<|Ae z z<|be hL1 fun x50 hr8 hL1=>AJ Tryz.call21 z z (c_S_NextPage a1 u1 (g1.now hC60.keep) a2 u2 (g2.now hC60.keep) (x17,x18) v9 ((hC60.ro 6 z).now (B5 _ _)) ((x13,x14),x15,x16) v8 ((hC60.ro 4 z).now (B5 _ _)) a5 x50 hr8)<|?_
   rintro _ w24 ⟨hB18,v18,v19,v20,F4,F5,F6,rfl,hv6,hv7,hv8,hn4,hb4⟩
   obtain ⟨rfl,rfl⟩:=val_int hv8
   have hC61:=hC60.pushL hB18 (Bs:=[Ag v18 x50.1,Ag v19 x50.2.1]) (Fs:=[F4,F5]) ⟨F4,_,z,hv6,F5,_,z,hv7,z⟩ (by simpa using hn4) (fun b h=>hb4 b (by simpa using h))
   have hC62:=hC61.f1
   obtain ⟨v21,rfl,hC63⟩:=st49_own hC62
   refine Ae z z<|Bn z z z<|Bn z z z<|Bn z z z<|Bd hC63 zero49 z z fun b8 w25 hC64 hB19 hN8=>Af z z<|Aj (cs':=[(I x50.2.1.1.1),v21,(I x50.2.1.2.1),(I x50.2.1.2.2)]) (new:=[(I x50.2.1.1.1),v21,(I x50.2.1.2.1),(I x50.2.1.2.2)]) hC64 0 z z (fac z<|fac (AT (hC64.ro 1 z))<|fac z<|fac z<|fa0) z AC z z fun w26 hC65 hKp6=>?_
   try dsimp only [List.set] at hC65
   have hk28:=Ar ((Al hB18).then hB19) (Ao (Al hB18).size hN8) hKp6
   have hk29:=Ar (Al hB19) hN8 hKp6
   refine Af z z<|Ab<|Ad<|fd AF Ax z z z z<|Aq hC65 10 z z A6 z z<|Bw z z z<|fd AF Ax z z z z<|Bc (cs':=[v10,(I x20),(I (w64 (x21+1))),(I x22),(.bool x23)]) hC65 10 z z z z Ax z z fun w27 hC66 hKp7=>?_
   try dsimp only [List.set] at hC66
   refine Ab<|AA<|Ad<|Ae z z<|BP z z z<|Ab<|AL z (fun hc4=>?_) (fun hc4=>?_)
   ·replace hL1:=AD hL1 hc4
    refine AA<|Ad<|fd AF Ax z z z z<|Aq hC66 10 z z A6 z z<|Ae z z<|BP z z z<|Ab<|AL z (fun hc5=>?_) (fun hc5=>?_)
    ·replace hL1:=AD hL1 hc5
     refine Ad<|AN (vs:=[]) hC66 Ah ty29 z z z z (by simp) z z fun b9 w28 hC67 hB20=>?_
     have hC68:=hC67.row0 (α:=(Int × (List Int)))
     have hC69:=hC68.front 1 z
     dsimp only [List.eraseIdx,List.cons_append,List.nil_append,List.append_nil] at hC69
     have hC70:Ctx [] w0 w28 (Ag (.slice (some ⟨b9,0,none⟩) 0 0) (([]:List (Int × (List Int))):List (Int × (List Int)))::[Ac b8 [(I x50.2.1.1.1),v21,(I x50.2.1.2.1),(I x50.2.1.2.2)],Ag v21 (x50.2.1.1.2:(List Int)),Ag v18 (x50.1:(List (Int × (List Int)))),Ag v12 (x26:(List (Int × (List Int)))),Ag v11 (x24:(List (Int × (List Int)))),Ag v10 (x19:(List (Int × (List Int)))),Ac b7 [(I x13),v8,(I x15),(I x16)],Ag v8 (x14:(List Int)),Ac b6 [v9,(I x18)],Ag v9 (x17:(List (Int × (List Int)))),Ac b5 [v10,(I x20),(I (w64 (x21+1))),(I x22),(.bool x23)],Ac b4 [v11,(I x25)],Ac b3 [v12,(I x27),(I x28),(I x29),(.bool x30)],Ac b2 [(I a4.1),u4]]):=hC69.rowOwn (by simp [maxLen])
     refine fd AF AG z z z z<|Bc (cs':=[(.slice (some ⟨b9,0,none⟩) 0 0),(I x20),(I (w64 (x21+1))),(I x22),(.bool x23)]) hC70 11 z z (AT (hC70.ro 0 z)) z AG z z fun w29 hC71 hKp8=>?_
     try dsimp only [List.set] at hC71
     refine Ab<|be hL1 fun r4 hr9 hL1=>BL (fun l w=>∃v22:Value,∃x51:(List (Int × (List Int))),∃x52:Int,∃v23:Value,∃x53:(List (Int × (List Int))),∃x54:Int,∃x55:Int,∃x56:Int,∃x57:Bool,(x51,x52,x53,x54,x55,x56,x57)=r4∧l=[(14,(ptr b3 0)),(15,(ptr b4 0))]∧Ctx [] w0 w [Ag v23 (x53:(List (Int × (List Int)))),Ag v22 (x51:(List (Int × (List Int)))),Ac b4 [v22,(I x52)],Ac b3 [v23,(I x54),(I x55),(I x56),(.bool x57)]]) ?_ ?_
     ·refine W_drawn 4 z hmix fun w31 hB22=>have hC73:=hC71.grow hB22;wAS (l':=[(0,u1),(1,u2),(4,(I a5)),(5,u5),(6,(I a7)),(10,(ptr b2 0)),(14,(ptr b3 0)),(15,(ptr b4 0)),(16,(ptr b5 0)),(17,(ptr b6 0)),(18,(ptr b7 0)),(20,(I x31)),(21,v18),(22,(ptr b8 0)),(23,(I x50.2.2)),(51,(.tuple #[v18,(.agg #[(I x50.2.1.1.1),v21,(I x50.2.1.2.1),(I x50.2.1.2.2)]),(I x50.2.2)])),(52,u1),(53,u2),(54,(.agg #[v9,(I x18)])),(55,(.agg #[(I x13),v8,(I x15),(I x16)])),(56,(I a5)),(57,(.tuple #[v18,(.agg #[(I x50.2.1.1.1),v21,(I x50.2.1.2.1),(I x50.2.1.2.2)]),(I x50.2.2)])),(58,v18),(59,(.agg #[(I x50.2.1.1.1),v21,(I x50.2.1.2.1),(I x50.2.1.2.2)])),(60,(I x50.2.2)),(61,(ptr b5 2)),(62,(I x21)),(63,(I (w64 (x21+1)))),(64,(ptr b5 2)),(65,(I x50.2.2)),(66,(.bool (decide (x50.2.2=2)))),(67,(ptr b5 3)),(68,(I x22)),(69,(I a7)),(70,(.bool (decide (x22=a7)))),(71,(.slice (some ⟨b9,0,none⟩) 0 0)),(72,(ptr b5 0))]) ⟨z,z,z,z,z,z,z,z,z,z,z,z,z,z,z,z,z,z,z,z,z,z,z,z,z,z,z,z,z,z,z,z,z,z,z,z,z,Ak⟩<|C6 [⟨0,[],fun vs=>AR (.agg #[(.slice (some ⟨b9,0,none⟩) 0 0),(I x20),(I (w64 (x21+1))),(I x22),(.bool x23)]),[]⟩,⟨1,[],fun vs=>AR (.agg #[v9,(I x18)]),[]⟩] [[],[]] [1] 2 z (by kernel_rfl) (by kernel_rfl) ?_ ⟨?_,?_,Ak⟩
      ·refine Am z ?_ ?_
       ·intro w32 hB23
        refine Aw<|⟨_,z,?_⟩
        exact At [(.slice (some ⟨b9,0,none⟩) 0 0),(I x20),(I (w64 (x21+1))),(I x22),(.bool x23)] (hC73.grow hB23) 11 z z z BT Bj z z<|Ab<|A0 (An _ _) z z ⟨z,z⟩
       refine Am z ?_ ?_
       ·intro w32 hB23
        refine Aw<|⟨_,z,?_⟩
        exact At [v9,(I x18)] (hC73.grow hB23) 9 z z z A8 Az z z<|Ab<|A0 (An _ _) z z ⟨z,z⟩
       exact Ba
      ·intro g' hg'
       obtain rfl:g'=2:=hg'
       intro w33 hB24
       refine Au z z z ?_
       rintro _ _ ⟨rfl,rfl⟩
       refine Au z z z ?_
       rintro _ _ ⟨rfl,rfl⟩
       refine Bh fun hn5 hb5=>have hC74:=hC73.grow hB24;oe 2 z<|Aj (cs':=[(.slice (some ⟨b9,0,none⟩) 0 0),(I x20),(I (w64 (x21+1))),(I x22),(.bool x23)]) (new:=[(.slice (some ⟨b9,0,none⟩) 0 0),(I x20),(I (w64 (x21+1))),(I x22),(.bool x23)]) hC74 13 z z (fac (AT (hC74.ro 0 z))<|fac z<|fac z<|fac z<|fac z<|fa0) z Bj z z fun w34 hC75 hKp9=>?_
       try dsimp only [List.set] at hC75
       refine Ab<|oe 3 z<|Aj (cs':=[v9,(I x18)]) (new:=[v9,(I x18)]) hC75 12 z z (fac (AT (hC75.ro 10 z))<|fac z<|fa0) z Az z z fun w35 hC76 hKp10=>?_
       try dsimp only [List.set] at hC76
       refine Ab<|dn<|?_
       obtain rfl:=Aa hr9
       have hC77:=hC76.f13
       have hC78:=hC77.f13
       have hC79:=hC78.f12
       have hC80:=hC79.f3
       have hC81:=hC80.h4
       exact Ay (l':=[(14,(ptr b3 0)),(15,(ptr b4 0))]) ⟨z,z,Ak⟩<|⟨v9,x17,x18,(.slice (some ⟨b9,0,none⟩) 0 0),([]:List (Int × (List Int))),x20,w64 (x21+1),x22,x23,z,z,hC81⟩
      intro g' hg'
      obtain rfl:g'=3:=hg'
      intro w33 hB24
      refine Au z z z ?_
      rintro _ _ ⟨rfl,rfl⟩
      refine Bh fun hn5 hb5=>have hC74:=hC73.grow hB24;Ci (i:=1) (j:=2) (by kernel_rfl) z z ?_ ?_
      ·refine At [v9,(I x18)] hC74 9 z z z A8 Az z z<|Ab<|oe 2 z<|Aj (cs':=[(.slice (some ⟨b9,0,none⟩) 0 0),(I x20),(I (w64 (x21+1))),(I x22),(.bool x23)]) (new:=[(.slice (some ⟨b9,0,none⟩) 0 0),(I x20),(I (w64 (x21+1))),(I x22),(.bool x23)]) hC74 13 z z (fac (AT (hC74.ro 0 z))<|fac z<|fac z<|fac z<|fac z<|fa0) z Bj z z fun w34 hC75 hKp9=>?_
       try dsimp only [List.set] at hC75
       refine Ab<|oe 3 z<|Aj (cs':=[v9,(I x18)]) (new:=[v9,(I x18)]) hC75 12 z z (fac (AT (hC75.ro 10 z))<|fac z<|fa0) z Az z z fun w35 hC76 hKp10=>?_
       try dsimp only [List.set] at hC76
       refine Ab<|dn<|?_
       obtain rfl:=Aa hr9
       have hC77:=hC76.f13
       have hC78:=hC77.f13
       have hC79:=hC78.f12
       have hC80:=hC79.f3
       have hC81:=hC80.h4
       exact Ay (l':=[(14,(ptr b3 0)),(15,(ptr b4 0))]) ⟨z,z,Ak⟩<|⟨v9,x17,x18,(.slice (some ⟨b9,0,none⟩) 0 0),([]:List (Int × (List Int))),x20,w64 (x21+1),x22,x23,z,z,hC81⟩
      refine Aj (cs':=[(.slice (some ⟨b9,0,none⟩) 0 0),(I x20),(I (w64 (x21+1))),(I x22),(.bool x23)]) (new:=[(.slice (some ⟨b9,0,none⟩) 0 0),(I x20),(I (w64 (x21+1))),(I x22),(.bool x23)]) hC74 13 z z (fac (AT (hC74.ro 0 z))<|fac z<|fac z<|fac z<|fac z<|fa0) z Bj z z (fun w34 hC75 hKp9=>?_)
      try dsimp only [List.set] at hC75
      refine Ab<|oe 1 z<|At [v9,(I x18)] hC75 9 z z z A8 Az z z<|Ab<|oe 3 z<|Aj (cs':=[v9,(I x18)]) (new:=[v9,(I x18)]) hC75 12 z z (fac (AT (hC75.ro 10 z))<|fac z<|fa0) z Az z z fun w35 hC76 hKp10=>?_
      try dsimp only [List.set] at hC76
      refine Ab<|dn<|?_
      obtain rfl:=Aa hr9
      have hC77:=hC76.f13
      have hC78:=hC77.f13
      have hC79:=hC78.f12
      have hC80:=hC79.f3
      have hC81:=hC80.h4
      exact Ay (l':=[(14,(ptr b3 0)),(15,(ptr b4 0))]) ⟨z,z,Ak⟩<|⟨v9,x17,x18,(.slice (some ⟨b9,0,none⟩) 0 0),([]:List (Int × (List Int))),x20,w64 (x21+1),x22,x23,z,z,hC81⟩
     rintro _ w30 ⟨v22,x51,x52,v23,x53,x54,x55,x56,x57,rfl,rfl,hC72⟩
     try dsimp only at hL1
     refine AK (A2 (A2 (Bu (A2 (Bu (A2 ?_))))))
     obtain rfl:=Aa hL1
     dsimp only at hF
     obtain rfl:=Aa hF
     refine BZ z (rv_cell_agg (cs':=[v23,(I x54),(I x55),(I x56),(.bool x57)]) hC72 (i:=3) z z z BT Bj z) (rv_cell_agg (cs':=[v22,(I x52)]) hC72 (i:=2) z z z A8 Az z)<|have hC83:=hC72.f1;?_
     have hC82:=Cb v22 x51 x52 hC83
     have hC85:=hC82.f1
     have hC84:=CM v23 x53 x54 x55 x56 x57 hC85
     exact ⟨_,z,res2_of hC84⟩
    replace hL1:=AE hL1 hc5
    refine AM<|Av<|Ad<|fd AF Ax z z z z<|Aq hC66 10 z z A6 z z<|Bw z z z<|fd AF Ax z z z z<|Bc (cs':=[v10,(I x20),(I (w64 (x21+1))),(I (w64 (x22+1))),(.bool x23)]) hC66 10 z z z z Ax z z fun w36 hC86 hKp11=>?_
    try dsimp only [List.set] at hC86
    refine Ab<|Ad<|AN (vs:=[]) hC86 Ah ty29 z z z z (by simp) z z fun b10 w37 hC87 hB25=>?_
    have hC88:=hC87.row0 (α:=(Int × (List Int)))
    have hC89:=hC88.front 1 z
    dsimp only [List.eraseIdx,List.cons_append,List.nil_append,List.append_nil] at hC89
    have hC90:Ctx [] w0 w37 (Ag (.slice (some ⟨b10,0,none⟩) 0 0) (([]:List (Int × (List Int))):List (Int × (List Int)))::[Ac b8 [(I x50.2.1.1.1),v21,(I x50.2.1.2.1),(I x50.2.1.2.2)],Ag v21 (x50.2.1.1.2:(List Int)),Ag v18 (x50.1:(List (Int × (List Int)))),Ag v12 (x26:(List (Int × (List Int)))),Ag v11 (x24:(List (Int × (List Int)))),Ag v10 (x19:(List (Int × (List Int)))),Ac b7 [(I x13),v8,(I x15),(I x16)],Ag v8 (x14:(List Int)),Ac b6 [v9,(I x18)],Ag v9 (x17:(List (Int × (List Int)))),Ac b5 [v10,(I x20),(I (w64 (x21+1))),(I (w64 (x22+1))),(.bool x23)],Ac b4 [v11,(I x25)],Ac b3 [v12,(I x27),(I x28),(I x29),(.bool x30)],Ac b2 [(I a4.1),u4]]):=hC89.rowOwn (by simp [maxLen])
    refine fd AF AG z z z z<|Bc (cs':=[(.slice (some ⟨b10,0,none⟩) 0 0),(I x20),(I (w64 (x21+1))),(I (w64 (x22+1))),(.bool x23)]) hC90 11 z z (AT (hC90.ro 0 z)) z AG z z fun w38 hC91 hKp12=>?_
    try dsimp only [List.set] at hC91
    refine Ab<|Ad<|Ae z z<|Ae z z<|At [v9,(I x18)] hC91 9 z z z A8 Az z z<|At [(I a4.1),u4] hC91 14 z z z Bl A9 z z<|be hL1 fun x58 hr10 hL1=>AJ Tryz.call18 z z (c_S_OpenCursor a1 u1 (g1.now hC91.keep) a2 u2 (g2.now hC91.keep) (x17,x18) v9 ((hC91.ro 10 z).now (B5 _ _)) (a4.1,a4.2) u4 (g4.now hC91.keep) x58 hr10)<|?_
    rintro _ w39 ⟨hB26,v24,v25,F7,F8,rfl,hv9,hv10,hn6,hb6⟩
    obtain ⟨rfl,rfl⟩:=val_bool hv10
    have hC92:=hC91.pushL hB26 (Bs:=[Ag v24 x58.1]) (Fs:=[F7]) ⟨F7,_,z,hv9,z⟩ (by simpa using hn6) (fun b h=>hb6 b (by simpa using h))
    obtain ⟨v26,rfl,hC93⟩:=st49_own hC92
    refine Ae z z<|Bn z z z<|Bn z z z<|Aj (cs':=[(I x58.1.1.1),v26,(I x58.1.2.1),(I x58.1.2.2)]) (new:=[(I x58.1.1.1),v26,(I x58.1.2.1),(I x58.1.2.2)]) hC93 8 z z (fac z<|fac (AT (hC93.ro 0 z))<|fac z<|fac z<|fa0) z AC z z fun w40 hC94 hKp13=>?_
    try dsimp only [List.set] at hC94
    exact Ab<|BF<|AW<|B4<|have hC95:=hC94.f15;have hC96:=hC95.f15;have hC97:=hC96.f15;have hC98:=hC97.f15;have hC99:=hC98.f15;have hC100:=hC99.f15;have hC101:=hC100.f6;have hC102:=hC101.f14;have hC103:=hC102.f8;have hC104:=hC103.f13;have hC105:=hC104.f13;have hC106:=hC105.h11;Ay (l':=[(0,u1),(1,u2),(4,(I a5)),(5,u5),(6,(I a7)),(10,(ptr b2 0)),(14,(ptr b3 0)),(15,(ptr b4 0)),(16,(ptr b5 0)),(17,(ptr b6 0)),(18,(ptr b7 0)),(20,(I x31))]) ⟨z,z,z,z,z,z,z,z,z,z,z,z,Ak⟩<|⟨k1,AO _,x58.1.1.1,v26,x58.1.1.2,x58.1.2.1,x58.1.2.2,v9,x17,x18,(.slice (some ⟨b10,0,none⟩) 0 0),([]:List (Int × (List Int))),x20,w64 (x21+1),w64 (x22+1),x23,v11,x24,x25,v12,x26,x27,x28,x29,x30,x31,z,hC106,hL1⟩
   replace hL1:=AE hL1 hc4
   refine AM<|Av<|Ad<|fd AF AG z z z z<|Aq hC66 10 z z Bk z z<|Ae z z<|be hL1 fun x59 hx1 hL1=>have hC108:=hC66.f2;BA hC108 4 z Ah ty29 z hx1 z z z fun v27 w41 hC107=>?_
   try dsimp only [List.set] at hC107
   refine fd AF AG z z z z<|Bc (cs':=[v27,(I x20),(I (w64 (x21+1))),(I x22),(.bool x23)]) hC107 9 z z (AT (hC107.ro 4 z)) z AG z z fun w42 hC109 hKp14=>?_
   try dsimp only [List.set] at hC109
   refine Ab<|Ad<|At [(I x50.2.1.1.1),v21,(I x50.2.1.2.1),(I x50.2.1.2.2)] hC109 0 z z z Bp AC z z<|Aj (cs':=[(I x50.2.1.1.1),v21,(I x50.2.1.2.1),(I x50.2.1.2.2)]) (new:=[(I x50.2.1.1.1),v21,(I x50.2.1.2.1),(I x50.2.1.2.2)]) hC109 5 z z (fac z<|fac (AT (hC109.ro 1 z))<|fac z<|fac z<|fa0) z AC z z fun w43 hC110 hKp15=>?_
   try dsimp only [List.set] at hC110
   refine Ab<|AA<|Ad<|Ae z z<|BP z z z<|Ab<|AL z (fun hc6=>?_) (fun hc6=>?_)
   ·replace hL1:=AD hL1 hc6
    refine Ad<|fd AF BG z z z z<|Bc (cs':=[v27,(I x20),(I (w64 (x21+1))),(I x22),(.bool true)]) hC110 9 z z z z BG z z fun w44 hC111 hKp16=>?_
    try dsimp only [List.set] at hC111
    refine Ab<|Ad<|fd A5 Ax z z z z<|Aq hC111 7 z z A6 z z<|fd AF Ax z z z z<|Bc (cs':=[v27,(I x18),(I (w64 (x21+1))),(I x22),(.bool true)]) hC111 9 z z z z Ax z z fun w45 hC112 hKp17=>?_
    try dsimp only [List.set] at hC112
    refine Ab<|be hL1 fun r5 hr11 hL1=>BL (fun l w=>∃v28:Value,∃x60:(List (Int × (List Int))),∃x61:Int,∃v29:Value,∃x62:(List (Int × (List Int))),∃x63:Int,∃x64:Int,∃x65:Int,∃x66:Bool,(x60,x61,x62,x63,x64,x65,x66)=r5∧l=[(14,(ptr b3 0)),(15,(ptr b4 0))]∧Ctx [] w0 w [Ag v29 (x62:(List (Int × (List Int)))),Ag v28 (x60:(List (Int × (List Int)))),Ac b4 [v28,(I x61)],Ac b3 [v29,(I x63),(I x64),(I x65),(.bool x66)]]) ?_ ?_
    ·refine W_drawn 4 z hmix fun w47 hB28=>have hC114:=hC112.grow hB28;wAS (l':=[(0,u1),(1,u2),(4,(I a5)),(5,u5),(6,(I a7)),(10,(ptr b2 0)),(14,(ptr b3 0)),(15,(ptr b4 0)),(16,(ptr b5 0)),(17,(ptr b6 0)),(18,(ptr b7 0)),(20,(I x31)),(21,v18),(22,(ptr b8 0)),(23,(I x50.2.2)),(51,(.tuple #[v18,(.agg #[(I x50.2.1.1.1),v21,(I x50.2.1.2.1),(I x50.2.1.2.2)]),(I x50.2.2)])),(52,u1),(53,u2),(54,(.agg #[v9,(I x18)])),(55,(.agg #[(I x13),v8,(I x15),(I x16)])),(56,(I a5)),(57,(.tuple #[v18,(.agg #[(I x50.2.1.1.1),v21,(I x50.2.1.2.1),(I x50.2.1.2.2)]),(I x50.2.2)])),(58,v18),(59,(.agg #[(I x50.2.1.1.1),v21,(I x50.2.1.2.1),(I x50.2.1.2.2)])),(60,(I x50.2.2)),(61,(ptr b5 2)),(62,(I x21)),(63,(I (w64 (x21+1)))),(64,(ptr b5 2)),(65,(I x50.2.2)),(66,(.bool (decide (x50.2.2=2)))),(89,(ptr b5 0)),(90,v10),(91,v18),(92,v27),(93,(ptr b5 0)),(94,(.agg #[(I x50.2.1.1.1),v21,(I x50.2.1.2.1),(I x50.2.1.2.2)])),(95,(I x50.2.2)),(96,(.bool (decide (x50.2.2=1)))),(97,(ptr b5 4)),(98,(ptr b6 1)),(99,(I x18)),(100,(ptr b5 1))]) ⟨z,z,z,z,z,z,z,z,z,z,z,z,z,z,z,z,z,z,z,z,z,z,z,z,z,z,z,z,z,z,z,z,z,z,z,z,z,z,z,z,z,z,z,Ak⟩<|C6 [⟨0,[],fun vs=>AR (.agg #[v27,(I x18),(I (w64 (x21+1))),(I x22),(.bool true)]),[]⟩,⟨1,[],fun vs=>AR (.agg #[v9,(I x18)]),[]⟩] [[],[]] [1] 2 z (by kernel_rfl) (by kernel_rfl) ?_ ⟨?_,?_,Ak⟩
     ·refine Am z ?_ ?_
      ·intro w48 hB29
       refine Aw<|⟨_,z,?_⟩
       exact At [v27,(I x18),(I (w64 (x21+1))),(I x22),(.bool true)] (hC114.grow hB29) 9 z z z BT Bj z z<|Ab<|A0 (An _ _) z z ⟨z,z⟩
      refine Am z ?_ ?_
      ·intro w48 hB29
       refine Aw<|⟨_,z,?_⟩
       exact At [v9,(I x18)] (hC114.grow hB29) 7 z z z A8 Az z z<|Ab<|A0 (An _ _) z z ⟨z,z⟩
      exact Ba
     ·intro g' hg'
      obtain rfl:g'=2:=hg'
      intro w49 hB30
      refine Au z z z ?_
      rintro _ _ ⟨rfl,rfl⟩
      refine Au z z z ?_
      rintro _ _ ⟨rfl,rfl⟩
      refine Bh fun hn7 hb7=>have hC115:=hC114.grow hB30;oe 2 z<|Aj (cs':=[v27,(I x18),(I (w64 (x21+1))),(I x22),(.bool true)]) (new:=[v27,(I x18),(I (w64 (x21+1))),(I x22),(.bool true)]) hC115 11 z z (fac (AT (hC115.ro 4 z))<|fac z<|fac z<|fac z<|fac z<|fa0) z Bj z z fun w50 hC116 hKp18=>?_
      try dsimp only [List.set] at hC116
      refine Ab<|oe 3 z<|Aj (cs':=[v9,(I x18)]) (new:=[v9,(I x18)]) hC116 10 z z (fac (AT (hC116.ro 8 z))<|fac z<|fa0) z Az z z fun w51 hC117 hKp19=>?_
      try dsimp only [List.set] at hC117
      refine Ab<|dn<|?_
      obtain rfl:=Aa hr11
      have hC118:=hC117.f11
      have hC119:=hC118.f11
      have hC120:=hC119.f10
      have hC121:=hC120.f7
      have hC122:=hC121.h4
      exact Ay (l':=[(14,(ptr b3 0)),(15,(ptr b4 0))]) ⟨z,z,Ak⟩<|⟨v9,x17,x18,v27,x59,x18,w64 (x21+1),x22,true,z,z,hC122⟩
     intro g' hg'
     obtain rfl:g'=3:=hg'
     intro w49 hB30
     refine Au z z z ?_
     rintro _ _ ⟨rfl,rfl⟩
     refine Bh fun hn7 hb7=>have hC115:=hC114.grow hB30;Ci (i:=1) (j:=2) (by kernel_rfl) z z ?_ ?_
     ·refine At [v9,(I x18)] hC115 7 z z z A8 Az z z<|Ab<|oe 2 z<|Aj (cs':=[v27,(I x18),(I (w64 (x21+1))),(I x22),(.bool true)]) (new:=[v27,(I x18),(I (w64 (x21+1))),(I x22),(.bool true)]) hC115 11 z z (fac (AT (hC115.ro 4 z))<|fac z<|fac z<|fac z<|fac z<|fa0) z Bj z z fun w50 hC116 hKp18=>?_
      try dsimp only [List.set] at hC116
      refine Ab<|oe 3 z<|Aj (cs':=[v9,(I x18)]) (new:=[v9,(I x18)]) hC116 10 z z (fac (AT (hC116.ro 8 z))<|fac z<|fa0) z Az z z fun w51 hC117 hKp19=>?_
      try dsimp only [List.set] at hC117
      refine Ab<|dn<|?_
      obtain rfl:=Aa hr11
      have hC118:=hC117.f11
      have hC119:=hC118.f11
      have hC120:=hC119.f10
      have hC121:=hC120.f7
      have hC122:=hC121.h4
      exact Ay (l':=[(14,(ptr b3 0)),(15,(ptr b4 0))]) ⟨z,z,Ak⟩<|⟨v9,x17,x18,v27,x59,x18,w64 (x21+1),x22,true,z,z,hC122⟩
     refine Aj (cs':=[v27,(I x18),(I (w64 (x21+1))),(I x22),(.bool true)]) (new:=[v27,(I x18),(I (w64 (x21+1))),(I x22),(.bool true)]) hC115 11 z z (fac (AT (hC115.ro 4 z))<|fac z<|fac z<|fac z<|fac z<|fa0) z Bj z z (fun w50 hC116 hKp18=>?_)
     try dsimp only [List.set] at hC116
     refine Ab<|oe 1 z<|At [v9,(I x18)] hC116 7 z z z A8 Az z z<|Ab<|oe 3 z<|Aj (cs':=[v9,(I x18)]) (new:=[v9,(I x18)]) hC116 10 z z (fac (AT (hC116.ro 8 z))<|fac z<|fa0) z Az z z fun w51 hC117 hKp19=>?_
     try dsimp only [List.set] at hC117
     refine Ab<|dn<|?_
     obtain rfl:=Aa hr11
     have hC118:=hC117.f11
     have hC119:=hC118.f11
     have hC120:=hC119.f10
     have hC121:=hC120.f7
     have hC122:=hC121.h4
     exact Ay (l':=[(14,(ptr b3 0)),(15,(ptr b4 0))]) ⟨z,z,Ak⟩<|⟨v9,x17,x18,v27,x59,x18,w64 (x21+1),x22,true,z,z,hC122⟩
    rintro _ w46 ⟨v28,x60,x61,v29,x62,x63,x64,x65,x66,rfl,rfl,hC113⟩
    try dsimp only at hL1
    refine AK (A2 (Bu (A2 (Bu (A2 ?_)))))
    obtain rfl:=Aa hL1
    dsimp only at hF
    obtain rfl:=Aa hF
    refine BZ z (rv_cell_agg (cs':=[v29,(I x63),(I x64),(I x65),(.bool x66)]) hC113 (i:=3) z z z BT Bj z) (rv_cell_agg (cs':=[v28,(I x61)]) hC113 (i:=2) z z z A8 Az z)<|have hC124:=hC113.f1;?_
    have hC123:=Cb v28 x60 x61 hC124
    have hC126:=hC123.f1
    have hC125:=CM v29 x62 x63 x64 x65 x66 hC126
    exact ⟨_,z,res2_of hC125⟩
   replace hL1:=AE hL1 hc6
   refine AM<|Av<|Ad<|Ae z z<|Ae z z<|Bo BI g5 z z<|B8 z z z<|Ab<|be hL1 fun r6 hr12 hL1=>Bx (fun l w=>∃v30:Value,∃x67:(List (Int × (List Int))),∃x68:Int,∃x69:Int,(x67,x68,x69)=r6∧l=[(0,u1),(1,u2),(4,(I a5)),(5,u5),(6,(I a7)),(10,(ptr b2 0)),(14,(ptr b3 0)),(15,(ptr b4 0)),(16,(ptr b5 0)),(17,(ptr b6 0)),(18,(ptr b7 0)),(20,(I x69))]∧Ctx [] w0 w [Ag v21 (x50.2.1.1.2:(List Int)),Ag v12 (x26:(List (Int × (List Int)))),Ag v11 (x24:(List (Int × (List Int)))),Ag v27 (x59:(List (Int × (List Int)))),Ac b7 [(I x50.2.1.1.1),v21,(I x50.2.1.2.1),(I x50.2.1.2.2)],Ac b6 [v30,(I x68)],Ag v30 (x67:(List (Int × (List Int)))),Ac b5 [v27,(I x20),(I (w64 (x21+1))),(I x22),(.bool x23)],Ac b4 [v11,(I x25)],Ac b3 [v12,(I x27),(I x28),(I x29),(.bool x30)],Ac b2 [(I a4.1),u4]]) ?_ ?_
   ·refine AL z (fun hc7=>?_) (fun hc7=>?_)
    ·replace hr12:=AD hr12 hc7
     refine be hr12 fun r7 hr13 hr12=>BL (fun l w=>∃b11:Nat,∃v31:Value,∃x70:(List (Int × (List Int))),∃x71:Int,(x70,x71)=r7∧l=[(0,u1),(1,u2),(4,(I a5)),(5,u5),(6,(I a7)),(10,(ptr b2 0)),(14,(ptr b3 0)),(15,(ptr b4 0)),(16,(ptr b5 0)),(17,(ptr b6 0)),(18,(ptr b7 0)),(20,(I x31)),(24,(ptr b11 0))]∧Ctx [] w0 w [Ac b11 [v31,(I x71)],Ag v31 (x70:(List (Int × (List Int)))),Ag v21 (x50.2.1.1.2:(List Int)),Ag v12 (x26:(List (Int × (List Int)))),Ag v11 (x24:(List (Int × (List Int)))),Ag v27 (x59:(List (Int × (List Int)))),Ac b7 [(I x50.2.1.1.1),v21,(I x50.2.1.2.1),(I x50.2.1.2.2)],Ac b6 [v9,(I x18)],Ag v9 (x17:(List (Int × (List Int)))),Ac b5 [v27,(I x20),(I (w64 (x21+1))),(I x22),(.bool x23)],Ac b4 [v11,(I x25)],Ac b3 [v12,(I x27),(I x28),(I x29),(.bool x30)],Ac b2 [(I a4.1),u4]]) ?_ ?_
     ·refine W_drawn 13 z hmix fun w54 hB33=>have hC129:=hC110.grow hB33;tm 0 z z z<|tm 2 z z z<|tm 3 z z z<|be hr13 fun x72 hx2 hr13=>tk 4 z z (BK BI ty31 g5 hx2 z z)<|AZ BI ty31 g5 hx2 z z z fun b12 o1 h1=>Ab<|be hr13 fun x73 hr14 hr13=>wAS (l':=[(0,u1),(1,u2),(4,(I a5)),(5,u5),(6,(I a7)),(10,(ptr b2 0)),(14,(ptr b3 0)),(15,(ptr b4 0)),(16,(ptr b5 0)),(17,(ptr b6 0)),(18,(ptr b7 0)),(20,(I x31)),(21,v18),(22,(ptr b8 0)),(23,(I x50.2.2)),(51,(.tuple #[v18,(.agg #[(I x50.2.1.1.1),v21,(I x50.2.1.2.1),(I x50.2.1.2.2)]),(I x50.2.2)])),(52,u1),(53,u2),(54,(.agg #[v9,(I x18)])),(55,(.agg #[(I x13),v8,(I x15),(I x16)])),(56,(I a5)),(57,(.tuple #[v18,(.agg #[(I x50.2.1.1.1),v21,(I x50.2.1.2.1),(I x50.2.1.2.2)]),(I x50.2.2)])),(58,v18),(59,(.agg #[(I x50.2.1.1.1),v21,(I x50.2.1.2.1),(I x50.2.1.2.2)])),(60,(I x50.2.2)),(61,(ptr b5 2)),(62,(I x21)),(63,(I (w64 (x21+1)))),(64,(ptr b5 2)),(65,(I x50.2.2)),(66,(.bool (decide (x50.2.2=2)))),(89,(ptr b5 0)),(90,v10),(91,v18),(92,v27),(93,(ptr b5 0)),(94,(.agg #[(I x50.2.1.1.1),v21,(I x50.2.1.2.1),(I x50.2.1.2.2)])),(95,(I x50.2.2)),(96,(.bool (decide (x50.2.2=1)))),(103,(I x31)),(104,u5),(105,(I (List.length a6:Int))),(106,(.bool (decide (x31 < (List.length a6:Int))))),(108,u1),(110,u5),(111,(I x31)),(112,(ptr b12 o1))]) ⟨z,z,z,z,z,z,z,z,z,z,z,z,z,z,z,z,z,z,z,z,z,z,z,z,z,z,z,z,z,z,z,z,z,z,z,z,z,z,z,z,z,z,z,z,z,z,z,Ak⟩<|C6 [⟨1,[],fun vs=>AR (.agg #[v9,(I x18)]),[]⟩,⟨5,[],fun vs=>Cs [] w0 x72,[]⟩,⟨6,[],fun vs=>PW.own2 (x73.1:((List (Int × (List Int))) × Int)) (x73.2:Bool),[]⟩,⟨7,[114],fun vs=>AR (vs.getD 0 undef),[]⟩,⟨8,[107],fun vs=>PW.comp (vs.getD 0 undef) 0,[]⟩,⟨9,[107],fun vs=>PW.comp (vs.getD 0 undef) 1,[]⟩,⟨10,[],fun vs=>PW.box [(.slice none 0 0),(I 0)],[]⟩] [[],[],[1,5],[6],[6,7],[6,7],[]] [9] 2 z (by kernel_rfl) (by kernel_rfl) ?_ ⟨?_,?_,Ak⟩
      ·refine Am z ?_ ?_
       ·intro w57 hB36
        refine Aw<|⟨_,z,?_⟩
        exact At [v9,(I x18)] (hC129.grow hB36) 7 z z z A8 Az z z<|Ab<|A0 (An _ _) z z ⟨z,z⟩
       refine Am z ?_ ?_
       ·intro w57 hB36
        refine Aw<|⟨_,z,?_⟩
        exact Be ty31 h1 (hC129.keep.then hB36) z z fun v34 h4=>Ab<|A0 (An _ _) z z ⟨z,h4⟩
       refine Am z ?_ ?_
       ·intro w57 hB36
        refine A7 z z z ?_
        rintro _ _ ⟨rfl,rfl⟩ _
        refine A7 z z z ?_
        rintro v34 _ ⟨rfl,h4⟩ _
        obtain ⟨v33,rfl,h3⟩:=ro_st31 h4
        refine Aw<|⟨_,z,?_⟩
        refine AJ Tryz.call8 z z (c_S_ApplyChange a1 u1 (g1.now (hC129.keep.then hB36)) (x17,x18) v9 ((hC129.grow hB36).ro 8 z) x72 v33 (h3.now (hC129.keep.then hB36)) x73 hr14) ?_
        rintro _ w55 ⟨hB34,v35,v36,F9,F10,rfl,hv11,hv12,hn8,hb8⟩
        exact Ab<|Cq (F:=F9 ++ F10) hB34 z z ⟨_,_,_,_,z,z,hv11,hv12⟩ (by simpa using hn8) (fun b h=>hb8 b (by simpa using h)) (fun b h=>by simp only [List.mem_append] at h; rcases h with h | h <;> first | exact Val.inh hv11 b h | exact Val.inh hv12 b h)
       refine Am z ?_ ?_
       ·intro w57 hB36
        refine A7 z z z ?_
        rintro _ _ ⟨v35,v36,F9,F10,rfl,rfl,hv11,hv12⟩ _
        obtain ⟨rfl,rfl⟩:=val_bool hv12
        obtain ⟨v37,rfl,h5⟩:=ro_st27 (ro_of_own hv11)
        refine Aw<|⟨_,z,?_⟩
        exact Ae z z<|Ab<|A0 (An _ _) z z ⟨z,z⟩
       refine Am z ?_ ?_
       ·intro w57 hB36
        refine A7 z z z ?_
        rintro _ _ ⟨v35,v36,F9,F10,rfl,rfl,hv11,hv12⟩ _
        obtain ⟨rfl,rfl⟩:=val_bool hv12
        obtain ⟨v37,rfl,h5⟩:=ro_st27 (ro_of_own hv11)
        refine A7 z z z ?_
        rintro _ _ ⟨rfl,rfl⟩ _
        refine Aw<|⟨_,z,?_⟩
        exact Bn z z z<|Ab<|A0 (An _ _) z z ⟨⟨_,z,z⟩,z⟩
       refine Am z ?_ ?_
       ·intro w57 hB36
        refine A7 z z z ?_
        rintro _ _ ⟨v35,v36,F9,F10,rfl,rfl,hv11,hv12⟩ _
        obtain ⟨rfl,rfl⟩:=val_bool hv12
        obtain ⟨v37,rfl,h5⟩:=ro_st27 (ro_of_own hv11)
        refine A7 z z z ?_
        rintro _ _ ⟨rfl,rfl⟩ _
        refine Aw<|⟨_,z,?_⟩
        exact Bn z z z<|Ab<|A0 (An _ _) z z ⟨⟨_,z,z⟩,z⟩
       refine Am z ?_ ?_
       ·intro w57 hB36
        refine Aw<|⟨_,z,?_⟩
        exact WL_alloc (AH _) zero27 z z fun b13 w56 hC130 hB35=>Ab<|CI hC130 z z (fun F h=>⟨b13,z,h⟩)
       exact Ba
      ·intro g' hg'
       obtain rfl:g'=2:=hg'
       intro w58 hB37
       refine Au z z z ?_
       rintro _ _ ⟨rfl,rfl⟩
       refine Au z z z ?_
       rintro v34 _ ⟨rfl,h4⟩
       obtain ⟨v33,rfl,h3⟩:=ro_st31 h4
       refine Au z z z ?_
       rintro _ _ ⟨v35,v36,F9,F10,rfl,rfl,hv11,hv12⟩
       obtain ⟨rfl,rfl⟩:=val_bool hv12
       refine Au z z z ?_
       rintro _ _ ⟨rfl,rfl⟩
       refine Au z z z ?_
       rintro _ _ ⟨⟨_,hx3,hx4⟩,rfl⟩
       obtain rfl:=Value.tuple.inj hx3
       obtain rfl:=Aa (show (some v35:Option Value)=some _ from hx4)
       refine Au z z z ?_
       rintro _ _ ⟨⟨_,hx5,hx6⟩,rfl⟩
       obtain rfl:=Value.tuple.inj hx5
       obtain rfl:=Aa (show (some (.bool x73.2):Option Value)=some _ from hx6)
       refine Au z z z ?_
       rintro _ F11 ⟨b13,rfl,hv13⟩
       refine Bh ?_
       intro hn9 hb9
       have hC131:=hC129.pushL hB37 (Bs:=[Ac b13 [(.slice none 0 0),(I 0)],Ag v35 (x73.1:((List (Int × (List Int))) × Int))]) (Fs:=[F11,F9]) ⟨F11,_,z,hv13,F9,_,z,hv11,z⟩ (by simpa using hn9) (fun b h=>(hb9 b (by simpa using h)).1)
       have hC132:=hC131.f1
       obtain ⟨v38,rfl,hC133⟩:=st27_own hC132
       refine oe 11 z<|Aj (cs':=[v38,(I x73.1.2)]) (new:=[v38,(I x73.1.2)]) hC133 1 z z (fac (AT (hC133.ro 0 z))<|fac z<|fa0) z Az z z fun w59 hC134 hKp20=>?_
       try dsimp only [List.set] at hC134
       refine Ab<|ta 12 z z z<|dn<|?_
       obtain rfl:=Aa hr13
       have hC135:=hC134.f14
       have hC136:=hC135.f14
       have hC137:=hC136.f14
       have hC138:=hC137.f14
       have hC139:=hC138.f14
       have hC140:=hC139.f14
       have hC141:=hC140.f13
       have hC142:=hC141.f13
       have hC143:=hC142.f13
       have hC144:=hC143.f13
       have hC145:=hC144.f13
       have hC146:=hC145.f11
       have hC147:=hC146.f12
       have hC148:Ctx [] w0 _ [Ac b13 [v38,(I x73.1.2)],Ag v38 (x73.1.1:(List (Int × (List Int)))),Ag v21 (x50.2.1.1.2:(List Int)),Ag v12 (x26:(List (Int × (List Int)))),Ag v11 (x24:(List (Int × (List Int)))),Ag v27 (x59:(List (Int × (List Int)))),Ac b7 [(I x50.2.1.1.1),v21,(I x50.2.1.2.1),(I x50.2.1.2.2)],Ac b6 [v9,(I x18)],Ag v9 (x17:(List (Int × (List Int)))),Ac b5 [v27,(I x20),(I (w64 (x21+1))),(I x22),(.bool x23)],Ac b4 [v11,(I x25)],Ac b3 [v12,(I x27),(I x28),(I x29),(.bool x30)],Ac b2 [(I a4.1),u4]]:=hC147.headN 13
       exact Ay (l':=[(0,u1),(1,u2),(4,(I a5)),(5,u5),(6,(I a7)),(10,(ptr b2 0)),(14,(ptr b3 0)),(15,(ptr b4 0)),(16,(ptr b5 0)),(17,(ptr b6 0)),(18,(ptr b7 0)),(20,(I x31)),(24,(ptr b13 0))]) ⟨z,z,z,z,z,z,z,z,z,z,z,z,z,Ak⟩<|⟨b13,v38,x73.1.1,x73.1.2,z,z,hC148⟩
      intro g' hg'
      obtain rfl:g'=3:=hg'
      intro w58 hB37
      refine Au z z z ?_
      rintro _ _ ⟨rfl,rfl⟩
      refine Au z z z ?_
      rintro v34 _ ⟨rfl,h4⟩
      obtain ⟨v33,rfl,h3⟩:=ro_st31 h4
      refine Au z z z ?_
      rintro _ _ ⟨v35,v36,F9,F10,rfl,rfl,hv11,hv12⟩
      obtain ⟨rfl,rfl⟩:=val_bool hv12
      refine Au z z z ?_
      rintro _ _ ⟨rfl,rfl⟩
      refine Au z z z ?_
      rintro _ _ ⟨⟨_,hx3,hx4⟩,rfl⟩
      obtain rfl:=Value.tuple.inj hx3
      obtain rfl:=Aa (show (some v35:Option Value)=some _ from hx4)
      refine Au z z z ?_
      rintro _ F11 ⟨b13,rfl,hv13⟩
      refine Bh ?_
      intro hn9 hb9
      have hC131:=hC129.pushL hB37 (Bs:=[Ac b13 [(.slice none 0 0),(I 0)],Ag v35 (x73.1:((List (Int × (List Int))) × Int))]) (Fs:=[F11,F9]) ⟨F11,_,z,hv13,F9,_,z,hv11,z⟩ (by simpa using hn9) (fun b h=>(hb9 b (by simpa using h)).1)
      have hC132:=hC131.f1
      obtain ⟨v38,rfl,hC133⟩:=st27_own hC132
      refine tk 9 z z (CA z z)<|Bn z z z<|Ab<|oe 11 z<|Aj (cs':=[v38,(I x73.1.2)]) (new:=[v38,(I x73.1.2)]) hC133 1 z z (fac (AT (hC133.ro 0 z))<|fac z<|fa0) z Az z z fun w59 hC134 hKp20=>?_
      try dsimp only [List.set] at hC134
      refine Ab<|ta 12 z z z<|dn<|?_
      obtain rfl:=Aa hr13
      have hC135:=hC134.f14
      have hC136:=hC135.f14
      have hC137:=hC136.f14
      have hC138:=hC137.f14
      have hC139:=hC138.f14
      have hC140:=hC139.f14
      have hC141:=hC140.f13
      have hC142:=hC141.f13
      have hC143:=hC142.f13
      have hC144:=hC143.f13
      have hC145:=hC144.f13
      have hC146:=hC145.f11
      have hC147:=hC146.f12
      have hC148:Ctx [] w0 _ [Ac b13 [v38,(I x73.1.2)],Ag v38 (x73.1.1:(List (Int × (List Int)))),Ag v21 (x50.2.1.1.2:(List Int)),Ag v12 (x26:(List (Int × (List Int)))),Ag v11 (x24:(List (Int × (List Int)))),Ag v27 (x59:(List (Int × (List Int)))),Ac b7 [(I x50.2.1.1.1),v21,(I x50.2.1.2.1),(I x50.2.1.2.2)],Ac b6 [v9,(I x18)],Ag v9 (x17:(List (Int × (List Int)))),Ac b5 [v27,(I x20),(I (w64 (x21+1))),(I x22),(.bool x23)],Ac b4 [v11,(I x25)],Ac b3 [v12,(I x27),(I x28),(I x29),(.bool x30)],Ac b2 [(I a4.1),u4]]:=hC147.headN 13
      exact Ay (l':=[(0,u1),(1,u2),(4,(I a5)),(5,u5),(6,(I a7)),(10,(ptr b2 0)),(14,(ptr b3 0)),(15,(ptr b4 0)),(16,(ptr b5 0)),(17,(ptr b6 0)),(18,(ptr b7 0)),(20,(I x31)),(24,(ptr b13 0))]) ⟨z,z,z,z,z,z,z,z,z,z,z,z,z,Ak⟩<|⟨b13,v38,x73.1.1,x73.1.2,z,z,hC148⟩
     rintro _ w53 ⟨b11,v31,x70,x71,rfl,rfl,hC128⟩
     try dsimp only at hr12
     refine Ad<|At [v31,(I x71)] hC128 0 z z z A8 Az z z<|Aj (cs':=[v31,(I x71)]) (new:=[v31,(I x71)]) hC128 7 z z (fac (AT (hC128.ro 1 z))<|fac z<|fa0) z Az z z fun w60 hC149 hKp21=>?_
     try dsimp only [List.set] at hC149
     refine Ab<|Bt<|Ae z z<|Bw z z z<|Af z z<|Ab<|?_
     obtain rfl:=Aa hr12
     have hC150:=hC149.f12
     have hC151:=hC150.f12
     have hC152:=hC151.f12
     have hC153:=hC152.f12
     have hC154:=hC153.f5
     have hC155:=hC154.f11
     have hC156:=hC155.f11
     have hC157:=hC156.f11
     have hC158:=hC157.f11
     have hC159:=hC158.f11
     have hC160:=hC159.f11
     have hC161:=hC160.h11
     exact Ay (l':=[(0,u1),(1,u2),(4,(I a5)),(5,u5),(6,(I a7)),(10,(ptr b2 0)),(14,(ptr b3 0)),(15,(ptr b4 0)),(16,(ptr b5 0)),(17,(ptr b6 0)),(18,(ptr b7 0)),(20,(I (w64 (x31+1))))]) ⟨z,z,z,z,z,z,z,z,z,z,z,z,Ak⟩<|⟨v31,x70,x71,w64 (x31+1),z,z,hC161⟩
    replace hr12:=AE hr12 hc7
    refine AM ?_
    obtain rfl:=Aa hr12
    have hC162:=hC110.f12
    have hC163:=hC162.f12
    have hC164:=hC163.f12
    have hC165:=hC164.f12
    have hC166:=hC165.f12
    have hC167:=hC166.f12
    have hC168:=hC167.f11
    have hC169:=hC168.f11
    have hC170:=hC169.f11
    have hC171:=hC170.f11
    have hC172:=hC171.f11
    have hC173:=hC172.h11
    exact Ay (l':=[(0,u1),(1,u2),(4,(I a5)),(5,u5),(6,(I a7)),(10,(ptr b2 0)),(14,(ptr b3 0)),(15,(ptr b4 0)),(16,(ptr b5 0)),(17,(ptr b6 0)),(18,(ptr b7 0)),(20,(I x31))]) ⟨z,z,z,z,z,z,z,z,z,z,z,z,Ak⟩<|⟨v9,x17,x18,x31,z,z,hC173⟩
   rintro l6 _ w52 hs6 ⟨v30,x67,x68,x69,rfl,rfl,hC127⟩
   try dsimp only at hL1
   exact Bg<|have hC174:=hC127.f10;have hC175:=hC174.f10;have hC176:=hC175.f10;have hC177:=hC176.f10;have hC178:=hC177.f10;have hC179:=hC178.f10;have hC180:=hC179.f6;have hC181:=hC180.f10;have hC182:=hC181.f10;have hC183:=hC182.f10;have hC184:=hC183.f10;Cn (l2:=[(0,u1),(1,u2),(4,(I a5)),(5,u5),(6,(I a7)),(10,(ptr b2 0)),(14,(ptr b3 0)),(15,(ptr b4 0)),(16,(ptr b5 0)),(17,(ptr b6 0)),(18,(ptr b7 0)),(20,(I x69))]) hs6 ⟨z,z,z,z,z,z,z,z,z,z,z,z,Ak⟩<|⟨k1,AO _,x50.2.1.1.1,v21,x50.2.1.1.2,x50.2.1.2.1,x50.2.1.2.2,v30,x67,x68,v27,x59,x20,w64 (x21+1),x22,x23,v11,x24,x25,v12,x26,x27,x28,x29,x30,x69,z,hC184,hL1⟩
 intro _ _ _ _ h; cases h
theorem c_S_MatchesOf {w0:World} (a1:(List Int)) (u1:Value) (g1:RO [] w0 u1 a1) (a2:(List (Int × (List Int) × Int × Int × Int))) (u2:Value) (g2:RO [] w0 u2 a2) (a3:(List (Int × (List Int)))) (u3:Value) (g3:RO [] w0 u3 a3) (a4:(Int × (List Int))) (u4:Value) (g4:RO [] w0 u4 a4.2) (rr:(List (Int × (List Int)))) (hF:S.MatchesOf a1 a2 a3 a4=some rr) :
 Calls Tryz.prog 25 [u1,u2,u3,(.agg #[(I a4.1),u4])].toArray w0 fun e w'=>∃v,e=.returned v∧Res w0 rr v w':=by
 refine A3 Tryz.func25 z z ?_
 have hC0:=AH w0
 unfold S.MatchesOf at hF
 refine Ad<|Bz (cs:=[(I a4.1),u4]) hC0 z z z fun b1 w1 hC1 hB1 hN1=>Af z z<|Ab<|AA<|be hF fun r1 hr1 hF=>BL (fun l w=>∃x1:Bool,x1=r1∧l=[(1,u2),(2,u3),(7,(ptr b1 0)),(19,(.bool x1))]∧Below w1.heap.size w1 w∧Ctx [] w0 w [Ac b1 [(I a4.1),u4]]) ?_ ?_
 ·refine Bt<|Ae z z<|Ae z z<|At [(I a4.1),u4] hC1 0 z z z Bl A9 z z<|be hr1 fun x2 hr2 hr1=>cb Tryz.call52 z z (c_S_IsAccess a1 u1 (g1.now hC1.keep) a2 u2 (g2.now hC1.keep) (a4.1,a4.2) u4 (g4.now hC1.keep) x2 hr2) fun w3 hB3=>have hC3:=hC1.grow hB3;B2 z z<|Ae z z<|B3 (fun hc1=>?_) (fun hc1=>?_)
  ·replace hr1:=AD hr1 hc1
   refine gs z z z z<|gs z z z z<|gs z z z z<|gs z z z z<|AI z z z<|Ab<|?_
   obtain rfl:=Aa hr1
   exact Ay (l':=[(1,u2),(2,u3),(7,(ptr b1 0)),(19,(.bool true))]) ⟨z,z,z,z,Ak⟩<|⟨true,z,z,(Al hB3).below,hC3⟩
  replace hr1:=AE hr1 hc1
  refine Ai z z<|Ae z z<|Ai z z<|Ae z z<|be hr1 fun x3 hr3 hr1=>Ai z z<|cb Tryz.call46 z z (c_S_AreFacts a1 u1 (g1.now hC3.keep) a3 u3 (g3.now hC3.keep) x3 hr3) fun w4 hB4=>have hC4:=hC3.grow hB4;Ai z z<|B2 z z<|AY z z z<|Ab<|?_
  obtain rfl:=Aa hr1
  exact Ay (l':=[(1,u2),(2,u3),(7,(ptr b1 0)),(19,(.bool (!x3)))]) ⟨z,z,z,z,Ak⟩<|⟨(!x3),z,z,((Al hB3).then hB4).below,hC4⟩
 rintro _ w2 ⟨x1,rfl,rfl,hB2,hC2⟩
 try dsimp only at hF
 refine AL z (fun hc2=>?_) (fun hc2=>?_)
 ·replace hF:=AD hF hc2
  refine Ad<|AN (vs:=[]) hC2 Ah ty29 z z z z (by simp) z z fun b2 w5 hC5 hB5=>?_
  have hC6:=hC5.row0 (α:=(Int × (List Int)))
  have hC7:=hC6.front 1 z
  dsimp only [List.eraseIdx,List.cons_append,List.nil_append,List.append_nil] at hC7
  have hC8:Ctx [] w0 w5 (Ag (.slice (some ⟨b2,0,none⟩) 0 0) (([]:List (Int × (List Int))):List (Int × (List Int)))::[Ac b1 [(I a4.1),u4]]):=hC7.rowOwn (by simp [maxLen])
  refine Af z z<|Ab<|AK<|A2<|?_
  obtain rfl:=Aa hF
  exact AB z z<|⟨_,z,Cf hC8 0 z⟩
 replace hF:=AE hF hc2
 refine AM<|Av<|AA<|W_drawn 10 z hmix fun w6 hB6=>have hC9:=hC2.grow hB6;tm 0 z z z<|tf 1 AV Ax z z z z z<|tf 5 AV A4 z z z z z<|tm 7 z z z<|be hF fun x4 hx1 hF=>wAS (l':=[(1,u2),(2,u3),(7,(ptr b1 0)),(19,(.bool x1)),(21,u2),(22,(ptr b1 0)),(26,(ptr b1 1)),(28,u3)]) ⟨z,z,z,z,z,z,z,z,Ak⟩<|Bq [⟨2,[],fun vs=>AR (I a4.1),[]⟩,⟨3,[],fun vs=>Cc [] w0 x4,[]⟩,⟨4,[],fun vs=>Cs [] w0 x4,[]⟩,⟨6,[],fun vs=>AR u4,[]⟩] [[],[2],[3],[]] 2 z (by kernel_rfl) (by kernel_rfl) z ?_ ?_
 ·refine Am z ?_ ?_
  ·intro w7 hB7
   refine Aw<|⟨_,z,?_⟩
   exact Aq (hC9.grow hB7) 0 z z A6 z z<|Ab<|A0 (An _ _) z z ⟨z,z⟩
  refine Am z ?_ ?_
  ·intro w7 hB7
   refine A7 z z z ?_
   rintro _ _ ⟨rfl,rfl⟩ _
   refine Aw<|⟨_,z,?_⟩
   exact AZ Bi ty93 g2 hx1 z z z fun b3 o1 h1=>Ab<|A0 (An _ _) z z ⟨z,_,_,z,h1⟩
  refine Am z ?_ ?_
  ·intro w7 hB7
   refine A7 z z z ?_
   rintro _ _ ⟨rfl,b3,o1,rfl,h1⟩ _
   refine Aw<|⟨_,z,?_⟩
   exact Be ty93 h1 (hC9.keep.then hB7) z z fun v3 h4=>Ab<|A0 (An _ _) z z ⟨z,h4⟩
  refine Am z ?_ ?_
  ·intro w7 hB7
   refine Aw<|⟨_,z,?_⟩
   exact Aq (hC9.grow hB7) 0 z z AU z z<|Ab<|A0 (An _ _) z z ⟨z,z⟩
  exact Ba
 intro w9 hB8
 refine Au z z z ?_
 rintro _ _ ⟨rfl,rfl⟩
 refine Au z z z ?_
 rintro _ _ ⟨rfl,b3,o1,rfl,h1⟩
 refine Au z z z ?_
 rintro v3 _ ⟨rfl,h4⟩
 obtain ⟨v2,rfl,h3⟩:=CN h4
 refine Au z z z ?_
 rintro _ _ ⟨rfl,rfl⟩
 refine Bh fun hn1 hb1=>have hC10:=hC9.grow hB8;be hF fun x5 hr4 hF=>oe 8 z<|AJ Tryz.call62 z z (c_S_l5Matches x4 v2 (h3.now hC10.keep) a4.2 u4 (g4.now hC10.keep) a3 u3 (g3.now hC10.keep) x5 hr4)<|?_
 rintro v4 w10 ⟨hB9,F1,hv3,hn2,hb2⟩
 have hC11:=hC10.push hB9 (A:=Ag v4 x5) hv3 hn2 hb2
 refine Ab<|ta 9 z z z<|dn<|Av<|AK<|?_
 obtain rfl:=Aa hF
 exact AB z z<|⟨_,z,Cf hC11 0 z⟩
theorem c_S_CountPages {w0:World} (a1:Int) (a2:Int) (rr:Int) (hF:S.CountPages a1 a2=some rr) :
 Calls Tryz.prog 26 [(I a1),(I a2)].toArray w0 fun e w'=>∃v,e=.returned v∧Res w0 rr v w':=by
 refine A3 Tryz.func26 z z ?_
 have hC0:=AH w0
 unfold S.CountPages at hF
 refine Ad<|Af z z<|Ab<|AA<|be hF fun r1 hr1 hF=>BL (fun l w=>∃x1:Bool,x1=r1∧l=[(0,(I a1)),(1,(I a2)),(12,(.bool x1))]∧Below w0.heap.size w0 w∧Ctx [] w0 w []) ?_ ?_
 ·refine Bt<|Ae z z<|be hr1 fun x2 hr2 hr1=>cb B9 z z (c_S_l1In a2 1 9 x2 hr2) fun w2 hB2=>have hC2:=hC0.grow hB2;B2 z z<|Ae z z<|B3 (fun hc1=>?_) (fun hc1=>?_)
  ·replace hr1:=AD hr1 hc1
   refine gs z z z z<|gs z z z z<|gs z z z z<|AI z z z<|Ab<|?_
   obtain rfl:=Aa hr1
   exact Ay (l':=[(0,(I a1)),(1,(I a2)),(12,(.bool true))]) ⟨z,z,z,Ak⟩<|⟨true,z,z,(Al hB2).below,hC2⟩
  replace hr1:=AE hr1 hc1
  refine Ai z z<|Ae z z<|be hr1 fun x3 hr3 hr1=>Ai z z<|cb B9 z z (c_S_l1In a1 0 1000000 x3 hr3) fun w3 hB3=>have hC3:=hC2.grow hB3;Ai z z<|B2 z z<|AY z z z<|Ab<|?_
  obtain rfl:=Aa hr1
  exact Ay (l':=[(0,(I a1)),(1,(I a2)),(12,(.bool (!x3)))]) ⟨z,z,z,Ak⟩<|⟨(!x3),z,z,((Al hB2).then hB3).below,hC3⟩
 rintro _ w1 ⟨x1,rfl,rfl,hB1,hC1⟩
 try dsimp only at hF
 refine AL z (fun hc2=>?_) (fun hc2=>?_)
 ·replace hF:=AD hF hc2
  refine Ad<|Af z z<|Ab<|AK<|A2<|?_
  obtain rfl:=Aa hF
  exact AB z z<|⟨_,z,B7 hC1 _⟩
 replace hF:=AE hF hc2
 refine AM<|Av<|AA<|Ad<|Ae z z<|BP z z z<|Ab<|AL z (fun hc3=>?_) (fun hc3=>?_)
 ·replace hF:=AD hF hc3
  refine Ad<|Af z z<|Ab<|AK<|A2<|?_
  obtain rfl:=Aa hF
  exact AB z z<|⟨_,z,B7 hC1 _⟩
 replace hF:=AE hF hc3
 refine AM<|Av<|Ad<|Ae z z<|Ae z z<|Bw z z z<|BV z z z<|Ae z z<|be hF fun _ hx1 hF=>WL_quo (nz_some hx1) z z z<|Af z z<|Ab<|AK<|?_
 obtain rfl:=Aa hF
 exact AB z z<|⟨_,z,B7 hC1 _⟩
end Go.Gx.Px
