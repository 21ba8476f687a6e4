/- The contracts of the Go functions against the pure functions, printed by program. Conditions: each says them. -/
import Derived.Test.YthidohmobbomfaaGreatC2
set_option linter.unusedVariables false
set_option linter.unusedSimpArgs false
set_option maxRecDepth 100000
set_option maxHeartbeats 4000000
namespace Go.Gx.Px
open Go.Proofs Go.RowKit
open K9
theorem c_S_l28List {w0:World} {Fs:List Tn} (pb1:Nat) (a1:Ti) (u1:Value) (g1:RO Fs.flatten w0 u1 a1.1) (hH:Hold [Ah pb1 [u1,(I a1.2.1),(I a1.2.2)]] w0 Fs) (hn:Fs.flatten.Nodup) (rr:(Ta × Tf × Tc × Tg × Ti)) (hF:S.l28List a1=some rr) :
 Calls Tryz.prog 64 [(ptr pb1 0)].toArray w0 fun e w'=>∃v,e=.returned v∧∃q0:Value,∃q1:Value,∃q2:Value,∃q3:Value,v=(.tuple #[q0,q1,q2,q3])∧Ctx Fs.flatten w0 w' [Ad q0 (rr.1:Ta),Ad q1 (rr.2.1:Tf),Ad q2 (rr.2.2.1:Tc),Ad q3 (rr.2.2.2.1:Tg),Ah pb1 [u1,(I rr.2.2.2.2.2.1),(I rr.2.2.2.2.2.2)]]:=by
 refine Av Tryz.func64 z z ?_
 have hC0:=B7 hH hn
 unfold S.l28List at hF
 refine Ac<|Af z z<|Af z z<|Af z z<|Af z z<|Aa<|Ac<|Ae z z<|be hF fun x1 hr1 hF=>?_
 obtain ⟨Fs1,hH1,hn1,hF1,hO1,hb1⟩:=Dh (As:=[]) [Ah pb1 [u1,(I a1.2.1),(I a1.2.2)]] hC0
 refine AA Tryz.call110 z z (c_S_l5Draw pb1 (a1.1,a1.2.1,a1.2.2) u1 (Bd g1 hC0.keep hF1) hH1 hn1 x1 hr1) ?_
 rintro _ w1 ⟨v1,v2,v3,rfl,hq1⟩
 have hC1:Ctx Fs.flatten w0 w1 [Ad v1 x1.1,Ad v2 x1.2.1,Ad v3 x1.2.2.1,Ah pb1 [u1,(I x1.2.2.2.2.1),(I x1.2.2.2.2.2)]]:=hb1 _ _ hq1
 refine Ae z z<|Bk z z z<|Bk z z z<|Bk z z z<|Af z z<|Af z z<|Af z z<|Aa<|Ac<|Ar (vs:=[]) hC1 A8 ty84 z z z z (by simp) z z fun b1 w2 hC2 hB1=>?_
 have hC5:=hC2.rowE (α:=Td)
 refine Af z z<|Aa<|A0<|Ac<|Ae z z<|be hF fun x2 hr2 hF=>have hC6:=hC5.f4;?_
 obtain ⟨Fs2,hH2,hn2,hF2,hO2,hb2⟩:=hC6.lA
 refine AA Bp z z (c_S_l1Below pb1 (a1.1,x1.2.2.2.2.1,x1.2.2.2.2.2) u1 (Bd g1 hC6.keep hF2) 5 hH2 hn2 x2 hr2) ?_
 rintro _ w3 ⟨rfl,hq2⟩
 have hC7:=hb2 _ _ hq2
 refine Af z z<|Aa<|be hF fun r1 hr3 hF=>wN (fun l w=>∃x7:Int,∃x8:Int,∃v5:Value,∃x9:Tg,(x7,x8,x9)=r1∧l=[(0,(ptr pb1 0)),(6,v1),(7,v2),(8,v3),(9,v5)]∧Ctx Fs.flatten w0 w [Ah pb1 [u1,(I x7),(I x8)],Ad v5 x9,Ad v1 x1.1,Ad v2 x1.2.1,Ad v3 x1.2.2.1]) ?_ ?_
 ·refine A4<|wT<|Bj (fun k l w=>∃x3:Int,∃x4:Int,∃v4:Value,∃x5:Tg,∃x6:Int,l=[(0,(ptr pb1 0)),(6,v1),(7,v2),(8,v3),(9,v4),(10,(I x6))]∧Ctx Fs.flatten w0 w [Ah pb1 [u1,(I x3),(I x4)],Ad v4 x5,Ad v1 x1.1,Ad v2 x1.2.1,Ad v3 x1.2.2.1]∧S.l28List_l1 x1 a1 k x3 x4 x5 x6=some r1) FUEL ⟨x2.2.2.1,x2.2.2.2,(.slice (some ⟨b1,0,none⟩) 0 0),([]:List Td),x2.1,z,hC7,hr3⟩<|?_
  clear hr3
  rintro k1 _ w4 ⟨x3,x4,v4,x5,x6,rfl,hC8,hL1⟩
  obtain _|k1:=k1<;>rw [S.l28List_l1] at hL1
  ·cases hL1
  refine A0<|be hL1 fun r2 hr4 hL1=>B9 (fun l w=>∃x10:Bool,x10=r2∧l=[(0,(ptr pb1 0)),(6,v1),(7,v2),(8,v3),(9,v4),(10,(I x6)),(28,(.bool x10))]∧Below w4.heap.size w4 w∧Ctx Fs.flatten w0 w [Ah pb1 [u1,(I x3),(I x4)],Ad v4 x5,Ad v1 x1.1,Ad v2 x1.2.1,Ad v3 x1.2.2.1]) ?_ ?_
  ·refine AL<|Ae z z<|Ck z z z<|Ae z z<|wk hr4 (fun hr4=>?_) fun hr4=>?_
   ·exact Ai z z<|Ae z z<|Ai z z<|Ae z z<|be hr4 fun x11 hr5 hr4=>Ai z z<|cb CL z z (c_S_AreMethods x1.1 v1 ((hC8.ro 2 z).now (Ay _ _)) x1.2.1 v2 ((hC8.ro 3 z).now (Ay _ _)) x11 hr5) fun w6 hB4=>have hC10:=hC8.grow hB4;AJ z z z<|Aa<|nS<|⟨x11,Ab hr4,z,(Ao hB4).below,hC10⟩
   exact gs z z z z<|gs z z z z<|gs z z z z<|AK z z z<|Aa<|nS<|⟨false,Ab hr4,z,(Aj _ _),hC8⟩
  rintro _ w5 ⟨x10,rfl,rfl,hB3,hC9⟩
  refine wc hL1 z (fun hL1=>?_) fun hL1=>?_
  ·refine A5<|Am<|A0<|A4<|Ac<|Ae z z<|Ae z z<|be hL1 fun x12 hr6 hL1=>?_
   obtain ⟨Fs3,hH3,hn3,hF3,hO3,hb3⟩:=hC9.lB
   refine AA Tryz.call112 z z (c_S_l5Access pb1 (a1.1,x3,x4) u1 (Bd g1 hC9.keep hF3) x1.2.1 v2 (hO3 2 _ _ _ z) hH3 hn3 x12 hr6) ?_
   rintro v6 w7 ⟨_,rfl,hq5⟩
   have hC11:=hb3 _ _ _ hq5
   obtain ⟨v7,rfl,hC12⟩:=st82_own hC11
   refine Bq hC12 zero82 z z fun b2 w9 hC13 hB5 hN1=>AE (cs':=[(I x12.1.1),v7]) (new:=[(I x12.1.1),v7]) hC13 0 z z (fac z<|fac (Br (hC13.ro 1 z))<|fa0) z AP z z fun w10 hC14 hKp1=>?_
   try dsimp only [List.set] at hC14
   have hk1:=AV (Ao hB5) hN1 hKp1
   refine Aa<|Ac<|Ae z z<|Af z z<|Aa<|A0<|be hL1 fun r3 hr7 hL1=>B9 (fun l w=>∃x13:Int,∃x14:Int,∃x15:Bool,(x13,x14,x15)=r3∧l=[(0,(ptr pb1 0)),(6,v1),(7,v2),(8,v3),(9,v4),(10,(I x6)),(11,(ptr b2 0)),(12,v3),(41,(.bool x15))]∧Ctx Fs.flatten w0 w [Ah b2 [(I x12.1.1),v7],Ad v7 x12.1.2,Ah pb1 [u1,(I x13),(I x14)],Ad v4 x5,Ad v1 x1.1,Ad v2 x1.2.1,Ad v3 x1.2.2.1]) ?_ ?_
   ·refine AL<|Ae z z<|AH Ak (hC14.ro 6 z) z z<|Ck z z z<|Ae z z<|wk hr7 (fun hr7=>?_) fun hr7=>?_
    ·refine Ai z z<|Ae z z<|be hr7 fun x16 hr8 hr7=>Ai z z<|have hC16:=hC14.f2;?_
     obtain ⟨Fs4,hH4,hn4,hF4,hO4,hb4⟩:=hC16.lA
     refine AA Cp z z (c_S_l1Once pb1 (a1.1,x12.2.2.1,x12.2.2.2) u1 (Bd g1 hC16.keep hF4) 6 hH4 hn4 x16 hr8) ?_
     rintro _ w12 ⟨rfl,hq6⟩
     have hC17:=hb4 _ _ hq6
     refine AJ z z z<|Aa<|?_
     have hC24:=hC17.f6.f6.f6.f6.f4.f6.f6
     exact nS<|⟨x16.2.2.1,x16.2.2.2,x16.1,Ab hr7,z,hC24⟩
    exact gs z z z z<|gs z z z z<|AK z z z<|Aa<|nS<|⟨x12.2.2.1,x12.2.2.2,false,Ab hr7,z,hC14⟩
   rintro _ w11 ⟨x13,x14,x15,rfl,rfl,hC15⟩
   try dsimp only at hL1
   refine wc hL1 z (fun hL1=>?_) fun hL1=>?_
   ·refine AL<|Ae z z<|be hL1 fun x17 hx1 hL1=>WL_slice_lV Ak ty77 (hC15.ro 6 z) hx1 z z z fun v8 h1=>Af z z<|Aa<|Am<|be hL1 fun r4 hr9 hL1=>wB (fun l w=>∃x18:Int,∃x19:Int,∃v9:Value,∃x20:Tg,(x18,x19,x20)=r4∧l=[(0,(ptr pb1 0)),(6,v1),(7,v2),(8,v3),(9,v9),(10,(I x6))]∧Ctx Fs.flatten w0 w [Ah pb1 [u1,(I x18),(I x19)],Ad v9 x20,Ad v1 x1.1,Ad v2 x1.2.1,Ad v3 x1.2.2.1]) ?_ ?_
    ·refine W_drawn 13 z hmix fun w14 hB8=>have hC26:=hC15.grow hB8;tm 0 z z z<|tm 2 z z z<|tm 3 z z z<|tm 4 z z z<|tm 6 z z z<|WA_all3 (i:=1) (j:=5) (m:=7) (by kernel_rfl) z z z ?_ ?_ ?_
     ·refine Az [(I x12.1.1),v7] hC26 0 z z z Bu AP z z<|Aa<|Cx (i:=5) (j:=7) (by kernel_rfl) z z ?_ ?_
      ·refine Az [(I x12.1.1),v7] hC26 0 z z z Bu AP z z<|Aa<|be hr9 fun x21 hr10 hr9=>oe 7 z<|have hC27:=hC26.f2;?_
       obtain ⟨Fs5,hH5,hn5,hF5,hO5,hb5⟩:=hC27.lA
       refine AA Bp z z (c_S_l1Below pb1 (a1.1,x13,x14) u1 (Bd g1 hC27.keep hF5) 3 hH5 hn5 x21 hr10) ?_
       rintro _ w15 ⟨rfl,hq9⟩
       have hC28:=hb5 _ _ hq9
       refine Aa<|be hr9 fun x22 hr11 hr9=>oe 8 z<|AA BO z z (c_S_RespondTo x1.1 v1 ((hC28.ro 4 z).now (Ay _ _)) x1.2.1 v2 ((hC28.ro 5 z).now (Ay _ _)) x17 v8 ((h1 (hC28.ro 6 z)).now (Ay _ _)) (x12.1.1,x12.1.2) v7 ((hC28.ro 2 z).now (Ay _ _)) x21.1 x22 hr11)<|?_
       rintro v10 w16 ⟨hB9,F1,hv2,hn6,hb6⟩
       have hC29:=hC28.push hB9 (A:=Ad v10 x22) hv2 hn6 hb6
       refine Aa<|tk 9 z z (BR (vs:=[(0,(.agg #[(I x12.1.1),v7])),(1,v10)]) z z (built84_0_1 z (ro_cells (hC29.ro 0 z))))<|B4 (vs:=[(0,(.agg #[(I x12.1.1),v7])),(1,v10)]) z z z (built84_0_1 z (ro_cells (hC29.ro 0 z)))<|Aa<|oe 10 z<|Ar (vs:=[(.agg #[(I x12.1.1),v7,v10])]) hC29 A8 ty84 z z z z (fac z<|fa0) z z fun b3 w17 hC30 hB10=>?_
       have hC31:=hC30.row0 (α:=Td)
       have hC33:=hC31.f2
       have hC34:=hC33.f5
       have hC32:=BW x12.1.1 v7 x12.1.2 v10 x22 hC34
       have hC35:=hC32.row1
       have hC36:=hC35.front 1 z
       dsimp only [List.eraseIdx,List.cons_append,List.nil_append,List.append_nil] at hC36
       have hC37:Ctx Fs.flatten w0 w17 (Ad (.slice (some ⟨b3,0,none⟩) 1 1) ([((x12.1.1,x12.1.2),x22)]:List Td)::[Ah pb1 [u1,(I x21.2.2.1),(I x21.2.2.2)],Ah b2 [(I x12.1.1),v7],Ad v4 x5,Ad v1 x1.1,Ad v2 x1.2.1,Ad v3 x1.2.2.1]):=hC36.rowOwn (by simp [maxLen])
       refine Aa<|be hr9 fun x23 hx2 hr9=>oe 11 z<|Bf hC37 2 z A8 ty84 z hx2 z z z fun v11 w18 hC38=>?_
       try dsimp only [List.set] at hC38
       refine Aa<|ta 12 z z z<|dn<|?_
       have hC40:=hC38.f5
       have hC41:=hC40.f5
       have hC42:=hC41.f5
       have hC43:=hC42.f5
       have hC44:=hC43.f4
       have hC45:=hC44.h5
       exact nS<|⟨x21.2.2.1,x21.2.2.2,v11,x23,Ab hr9,z,hC45⟩
      refine be hr9 fun x21 hr10 hr9=>have hC27:=hC26.f2;?_
      obtain ⟨Fs5,hH5,hn5,hF5,hO5,hb5⟩:=hC27.lA
      refine AA Bp z z (c_S_l1Below pb1 (a1.1,x13,x14) u1 (Bd g1 hC27.keep hF5) 3 hH5 hn5 x21 hr10) ?_
      rintro _ w15 ⟨rfl,hq9⟩
      have hC28:=hb5 _ _ hq9
      refine Aa<|oe 5 z<|Az [(I x12.1.1),v7] hC28 1 z z z Bu AP z z<|Aa<|be hr9 fun x22 hr11 hr9=>oe 8 z<|AA BO z z (c_S_RespondTo x1.1 v1 ((hC28.ro 4 z).now (Ay _ _)) x1.2.1 v2 ((hC28.ro 5 z).now (Ay _ _)) x17 v8 ((h1 (hC28.ro 6 z)).now (Ay _ _)) (x12.1.1,x12.1.2) v7 ((hC28.ro 2 z).now (Ay _ _)) x21.1 x22 hr11)<|?_
      rintro v10 w16 ⟨hB9,F1,hv2,hn6,hb6⟩
      have hC29:=hC28.push hB9 (A:=Ad v10 x22) hv2 hn6 hb6
      refine Aa<|tk 9 z z (BR (vs:=[(0,(.agg #[(I x12.1.1),v7])),(1,v10)]) z z (built84_0_1 z (ro_cells (hC29.ro 0 z))))<|B4 (vs:=[(0,(.agg #[(I x12.1.1),v7])),(1,v10)]) z z z (built84_0_1 z (ro_cells (hC29.ro 0 z)))<|Aa<|oe 10 z<|Ar (vs:=[(.agg #[(I x12.1.1),v7,v10])]) hC29 A8 ty84 z z z z (fac z<|fa0) z z fun b3 w17 hC30 hB10=>?_
      have hC31:=hC30.row0 (α:=Td)
      have hC33:=hC31.f2
      have hC34:=hC33.f5
      have hC32:=BW x12.1.1 v7 x12.1.2 v10 x22 hC34
      have hC35:=hC32.row1
      have hC36:=hC35.front 1 z
      dsimp only [List.eraseIdx,List.cons_append,List.nil_append,List.append_nil] at hC36
      have hC37:Ctx Fs.flatten w0 w17 (Ad (.slice (some ⟨b3,0,none⟩) 1 1) ([((x12.1.1,x12.1.2),x22)]:List Td)::[Ah pb1 [u1,(I x21.2.2.1),(I x21.2.2.2)],Ah b2 [(I x12.1.1),v7],Ad v4 x5,Ad v1 x1.1,Ad v2 x1.2.1,Ad v3 x1.2.2.1]):=hC36.rowOwn (by simp [maxLen])
      refine Aa<|be hr9 fun x23 hx2 hr9=>oe 11 z<|Bf hC37 2 z A8 ty84 z hx2 z z z fun v11 w18 hC38=>?_
      try dsimp only [List.set] at hC38
      refine Aa<|ta 12 z z z<|dn<|?_
      have hC40:=hC38.f5
      have hC41:=hC40.f5
      have hC42:=hC41.f5
      have hC43:=hC42.f5
      have hC44:=hC43.f4
      have hC45:=hC44.h5
      exact nS<|⟨x21.2.2.1,x21.2.2.2,v11,x23,Ab hr9,z,hC45⟩
     ·refine Az [(I x12.1.1),v7] hC26 0 z z z Bu AP z z<|Aa<|Cx (i:=1) (j:=7) (by kernel_rfl) z z ?_ ?_
      ·refine Az [(I x12.1.1),v7] hC26 0 z z z Bu AP z z<|Aa<|be hr9 fun x21 hr10 hr9=>oe 7 z<|have hC27:=hC26.f2;?_
       obtain ⟨Fs5,hH5,hn5,hF5,hO5,hb5⟩:=hC27.lA
       refine AA Bp z z (c_S_l1Below pb1 (a1.1,x13,x14) u1 (Bd g1 hC27.keep hF5) 3 hH5 hn5 x21 hr10) ?_
       rintro _ w15 ⟨rfl,hq9⟩
       have hC28:=hb5 _ _ hq9
       refine Aa<|be hr9 fun x22 hr11 hr9=>oe 8 z<|AA BO z z (c_S_RespondTo x1.1 v1 ((hC28.ro 4 z).now (Ay _ _)) x1.2.1 v2 ((hC28.ro 5 z).now (Ay _ _)) x17 v8 ((h1 (hC28.ro 6 z)).now (Ay _ _)) (x12.1.1,x12.1.2) v7 ((hC28.ro 2 z).now (Ay _ _)) x21.1 x22 hr11)<|?_
       rintro v10 w16 ⟨hB9,F1,hv2,hn6,hb6⟩
       have hC29:=hC28.push hB9 (A:=Ad v10 x22) hv2 hn6 hb6
       refine Aa<|tk 9 z z (BR (vs:=[(0,(.agg #[(I x12.1.1),v7])),(1,v10)]) z z (built84_0_1 z (ro_cells (hC29.ro 0 z))))<|B4 (vs:=[(0,(.agg #[(I x12.1.1),v7])),(1,v10)]) z z z (built84_0_1 z (ro_cells (hC29.ro 0 z)))<|Aa<|oe 10 z<|Ar (vs:=[(.agg #[(I x12.1.1),v7,v10])]) hC29 A8 ty84 z z z z (fac z<|fa0) z z fun b3 w17 hC30 hB10=>?_
       have hC31:=hC30.row0 (α:=Td)
       have hC33:=hC31.f2
       have hC34:=hC33.f5
       have hC32:=BW x12.1.1 v7 x12.1.2 v10 x22 hC34
       have hC35:=hC32.row1
       have hC36:=hC35.front 1 z
       dsimp only [List.eraseIdx,List.cons_append,List.nil_append,List.append_nil] at hC36
       have hC37:Ctx Fs.flatten w0 w17 (Ad (.slice (some ⟨b3,0,none⟩) 1 1) ([((x12.1.1,x12.1.2),x22)]:List Td)::[Ah pb1 [u1,(I x21.2.2.1),(I x21.2.2.2)],Ah b2 [(I x12.1.1),v7],Ad v4 x5,Ad v1 x1.1,Ad v2 x1.2.1,Ad v3 x1.2.2.1]):=hC36.rowOwn (by simp [maxLen])
       refine Aa<|be hr9 fun x23 hx2 hr9=>oe 11 z<|Bf hC37 2 z A8 ty84 z hx2 z z z fun v11 w18 hC38=>?_
       try dsimp only [List.set] at hC38
       refine Aa<|ta 12 z z z<|dn<|?_
       have hC40:=hC38.f5
       have hC41:=hC40.f5
       have hC42:=hC41.f5
       have hC43:=hC42.f5
       have hC44:=hC43.f4
       have hC45:=hC44.h5
       exact nS<|⟨x21.2.2.1,x21.2.2.2,v11,x23,Ab hr9,z,hC45⟩
      refine be hr9 fun x21 hr10 hr9=>have hC27:=hC26.f2;?_
      obtain ⟨Fs5,hH5,hn5,hF5,hO5,hb5⟩:=hC27.lA
      refine AA Bp z z (c_S_l1Below pb1 (a1.1,x13,x14) u1 (Bd g1 hC27.keep hF5) 3 hH5 hn5 x21 hr10) ?_
      rintro _ w15 ⟨rfl,hq9⟩
      have hC28:=hb5 _ _ hq9
      refine Aa<|Cx (i:=1) (j:=8) (by kernel_rfl) z z ?_ ?_
      ·refine Az [(I x12.1.1),v7] hC28 1 z z z Bu AP z z<|Aa<|be hr9 fun x22 hr11 hr9=>oe 8 z<|AA BO z z (c_S_RespondTo x1.1 v1 ((hC28.ro 4 z).now (Ay _ _)) x1.2.1 v2 ((hC28.ro 5 z).now (Ay _ _)) x17 v8 ((h1 (hC28.ro 6 z)).now (Ay _ _)) (x12.1.1,x12.1.2) v7 ((hC28.ro 2 z).now (Ay _ _)) x21.1 x22 hr11)<|?_
       rintro v10 w16 ⟨hB9,F1,hv2,hn6,hb6⟩
       have hC29:=hC28.push hB9 (A:=Ad v10 x22) hv2 hn6 hb6
       refine Aa<|tk 9 z z (BR (vs:=[(0,(.agg #[(I x12.1.1),v7])),(1,v10)]) z z (built84_0_1 z (ro_cells (hC29.ro 0 z))))<|B4 (vs:=[(0,(.agg #[(I x12.1.1),v7])),(1,v10)]) z z z (built84_0_1 z (ro_cells (hC29.ro 0 z)))<|Aa<|oe 10 z<|Ar (vs:=[(.agg #[(I x12.1.1),v7,v10])]) hC29 A8 ty84 z z z z (fac z<|fa0) z z fun b3 w17 hC30 hB10=>?_
       have hC31:=hC30.row0 (α:=Td)
       have hC33:=hC31.f2
       have hC34:=hC33.f5
       have hC32:=BW x12.1.1 v7 x12.1.2 v10 x22 hC34
       have hC35:=hC32.row1
       have hC36:=hC35.front 1 z
       dsimp only [List.eraseIdx,List.cons_append,List.nil_append,List.append_nil] at hC36
       have hC37:Ctx Fs.flatten w0 w17 (Ad (.slice (some ⟨b3,0,none⟩) 1 1) ([((x12.1.1,x12.1.2),x22)]:List Td)::[Ah pb1 [u1,(I x21.2.2.1),(I x21.2.2.2)],Ah b2 [(I x12.1.1),v7],Ad v4 x5,Ad v1 x1.1,Ad v2 x1.2.1,Ad v3 x1.2.2.1]):=hC36.rowOwn (by simp [maxLen])
       refine Aa<|be hr9 fun x23 hx2 hr9=>oe 11 z<|Bf hC37 2 z A8 ty84 z hx2 z z z fun v11 w18 hC38=>?_
       try dsimp only [List.set] at hC38
       refine Aa<|ta 12 z z z<|dn<|?_
       have hC40:=hC38.f5
       have hC41:=hC40.f5
       have hC42:=hC41.f5
       have hC43:=hC42.f5
       have hC44:=hC43.f4
       have hC45:=hC44.h5
       exact nS<|⟨x21.2.2.1,x21.2.2.2,v11,x23,Ab hr9,z,hC45⟩
      refine be hr9 fun x22 hr11 hr9=>AA BO z z (c_S_RespondTo x1.1 v1 ((hC28.ro 4 z).now (Ay _ _)) x1.2.1 v2 ((hC28.ro 5 z).now (Ay _ _)) x17 v8 ((h1 (hC28.ro 6 z)).now (Ay _ _)) (x12.1.1,x12.1.2) v7 ((hC28.ro 2 z).now (Ay _ _)) x21.1 x22 hr11)<|?_
      rintro v10 w16 ⟨hB9,F1,hv2,hn6,hb6⟩
      have hC29:=hC28.push hB9 (A:=Ad v10 x22) hv2 hn6 hb6
      refine Aa<|oe 1 z<|Az [(I x12.1.1),v7] hC29 2 z z z Bu AP z z<|Aa<|tk 9 z z (BR (vs:=[(0,(.agg #[(I x12.1.1),v7])),(1,v10)]) z z (built84_0_1 z (ro_cells (hC29.ro 0 z))))<|B4 (vs:=[(0,(.agg #[(I x12.1.1),v7])),(1,v10)]) z z z (built84_0_1 z (ro_cells (hC29.ro 0 z)))<|Aa<|oe 10 z<|Ar (vs:=[(.agg #[(I x12.1.1),v7,v10])]) hC29 A8 ty84 z z z z (fac z<|fa0) z z fun b3 w17 hC30 hB10=>?_
      have hC31:=hC30.row0 (α:=Td)
      have hC33:=hC31.f2
      have hC34:=hC33.f5
      have hC32:=BW x12.1.1 v7 x12.1.2 v10 x22 hC34
      have hC35:=hC32.row1
      have hC36:=hC35.front 1 z
      dsimp only [List.eraseIdx,List.cons_append,List.nil_append,List.append_nil] at hC36
      have hC37:Ctx Fs.flatten w0 w17 (Ad (.slice (some ⟨b3,0,none⟩) 1 1) ([((x12.1.1,x12.1.2),x22)]:List Td)::[Ah pb1 [u1,(I x21.2.2.1),(I x21.2.2.2)],Ah b2 [(I x12.1.1),v7],Ad v4 x5,Ad v1 x1.1,Ad v2 x1.2.1,Ad v3 x1.2.2.1]):=hC36.rowOwn (by simp [maxLen])
      refine Aa<|be hr9 fun x23 hx2 hr9=>oe 11 z<|Bf hC37 2 z A8 ty84 z hx2 z z z fun v11 w18 hC38=>?_
      try dsimp only [List.set] at hC38
      refine Aa<|ta 12 z z z<|dn<|?_
      have hC40:=hC38.f5
      have hC41:=hC40.f5
      have hC42:=hC41.f5
      have hC43:=hC42.f5
      have hC44:=hC43.f4
      have hC45:=hC44.h5
      exact nS<|⟨x21.2.2.1,x21.2.2.2,v11,x23,Ab hr9,z,hC45⟩
     refine be hr9 fun x21 hr10 hr9=>have hC27:=hC26.f2;?_
     obtain ⟨Fs5,hH5,hn5,hF5,hO5,hb5⟩:=hC27.lA
     refine AA Bp z z (c_S_l1Below pb1 (a1.1,x13,x14) u1 (Bd g1 hC27.keep hF5) 3 hH5 hn5 x21 hr10) ?_
     rintro _ w15 ⟨rfl,hq9⟩
     have hC28:=hb5 _ _ hq9
     refine Aa<|Cx (i:=1) (j:=5) (by kernel_rfl) z z ?_ ?_
     ·refine Az [(I x12.1.1),v7] hC28 1 z z z Bu AP z z<|Aa<|oe 5 z<|Az [(I x12.1.1),v7] hC28 1 z z z Bu AP z z<|Aa<|be hr9 fun x22 hr11 hr9=>oe 8 z<|AA BO z z (c_S_RespondTo x1.1 v1 ((hC28.ro 4 z).now (Ay _ _)) x1.2.1 v2 ((hC28.ro 5 z).now (Ay _ _)) x17 v8 ((h1 (hC28.ro 6 z)).now (Ay _ _)) (x12.1.1,x12.1.2) v7 ((hC28.ro 2 z).now (Ay _ _)) x21.1 x22 hr11)<|?_
      rintro v10 w16 ⟨hB9,F1,hv2,hn6,hb6⟩
      have hC29:=hC28.push hB9 (A:=Ad v10 x22) hv2 hn6 hb6
      refine Aa<|tk 9 z z (BR (vs:=[(0,(.agg #[(I x12.1.1),v7])),(1,v10)]) z z (built84_0_1 z (ro_cells (hC29.ro 0 z))))<|B4 (vs:=[(0,(.agg #[(I x12.1.1),v7])),(1,v10)]) z z z (built84_0_1 z (ro_cells (hC29.ro 0 z)))<|Aa<|oe 10 z<|Ar (vs:=[(.agg #[(I x12.1.1),v7,v10])]) hC29 A8 ty84 z z z z (fac z<|fa0) z z fun b3 w17 hC30 hB10=>?_
      have hC31:=hC30.row0 (α:=Td)
      have hC33:=hC31.f2
      have hC34:=hC33.f5
      have hC32:=BW x12.1.1 v7 x12.1.2 v10 x22 hC34
      have hC35:=hC32.row1
      have hC36:=hC35.front 1 z
      dsimp only [List.eraseIdx,List.cons_append,List.nil_append,List.append_nil] at hC36
      have hC37:Ctx Fs.flatten w0 w17 (Ad (.slice (some ⟨b3,0,none⟩) 1 1) ([((x12.1.1,x12.1.2),x22)]:List Td)::[Ah pb1 [u1,(I x21.2.2.1),(I x21.2.2.2)],Ah b2 [(I x12.1.1),v7],Ad v4 x5,Ad v1 x1.1,Ad v2 x1.2.1,Ad v3 x1.2.2.1]):=hC36.rowOwn (by simp [maxLen])
      refine Aa<|be hr9 fun x23 hx2 hr9=>oe 11 z<|Bf hC37 2 z A8 ty84 z hx2 z z z fun v11 w18 hC38=>?_
      try dsimp only [List.set] at hC38
      refine Aa<|ta 12 z z z<|dn<|?_
      have hC40:=hC38.f5
      have hC41:=hC40.f5
      have hC42:=hC41.f5
      have hC43:=hC42.f5
      have hC44:=hC43.f4
      have hC45:=hC44.h5
      exact nS<|⟨x21.2.2.1,x21.2.2.2,v11,x23,Ab hr9,z,hC45⟩
     refine Az [(I x12.1.1),v7] hC28 1 z z z Bu AP z z<|Aa<|Cx (i:=1) (j:=8) (by kernel_rfl) z z ?_ ?_
     ·refine Az [(I x12.1.1),v7] hC28 1 z z z Bu AP z z<|Aa<|be hr9 fun x22 hr11 hr9=>oe 8 z<|AA BO z z (c_S_RespondTo x1.1 v1 ((hC28.ro 4 z).now (Ay _ _)) x1.2.1 v2 ((hC28.ro 5 z).now (Ay _ _)) x17 v8 ((h1 (hC28.ro 6 z)).now (Ay _ _)) (x12.1.1,x12.1.2) v7 ((hC28.ro 2 z).now (Ay _ _)) x21.1 x22 hr11)<|?_
      rintro v10 w16 ⟨hB9,F1,hv2,hn6,hb6⟩
      have hC29:=hC28.push hB9 (A:=Ad v10 x22) hv2 hn6 hb6
      refine Aa<|tk 9 z z (BR (vs:=[(0,(.agg #[(I x12.1.1),v7])),(1,v10)]) z z (built84_0_1 z (ro_cells (hC29.ro 0 z))))<|B4 (vs:=[(0,(.agg #[(I x12.1.1),v7])),(1,v10)]) z z z (built84_0_1 z (ro_cells (hC29.ro 0 z)))<|Aa<|oe 10 z<|Ar (vs:=[(.agg #[(I x12.1.1),v7,v10])]) hC29 A8 ty84 z z z z (fac z<|fa0) z z fun b3 w17 hC30 hB10=>?_
      have hC31:=hC30.row0 (α:=Td)
      have hC33:=hC31.f2
      have hC34:=hC33.f5
      have hC32:=BW x12.1.1 v7 x12.1.2 v10 x22 hC34
      have hC35:=hC32.row1
      have hC36:=hC35.front 1 z
      dsimp only [List.eraseIdx,List.cons_append,List.nil_append,List.append_nil] at hC36
      have hC37:Ctx Fs.flatten w0 w17 (Ad (.slice (some ⟨b3,0,none⟩) 1 1) ([((x12.1.1,x12.1.2),x22)]:List Td)::[Ah pb1 [u1,(I x21.2.2.1),(I x21.2.2.2)],Ah b2 [(I x12.1.1),v7],Ad v4 x5,Ad v1 x1.1,Ad v2 x1.2.1,Ad v3 x1.2.2.1]):=hC36.rowOwn (by simp [maxLen])
      refine Aa<|be hr9 fun x23 hx2 hr9=>oe 11 z<|Bf hC37 2 z A8 ty84 z hx2 z z z fun v11 w18 hC38=>?_
      try dsimp only [List.set] at hC38
      refine Aa<|ta 12 z z z<|dn<|?_
      have hC40:=hC38.f5
      have hC41:=hC40.f5
      have hC42:=hC41.f5
      have hC43:=hC42.f5
      have hC44:=hC43.f4
      have hC45:=hC44.h5
      exact nS<|⟨x21.2.2.1,x21.2.2.2,v11,x23,Ab hr9,z,hC45⟩
     refine be hr9 fun x22 hr11 hr9=>AA BO z z (c_S_RespondTo x1.1 v1 ((hC28.ro 4 z).now (Ay _ _)) x1.2.1 v2 ((hC28.ro 5 z).now (Ay _ _)) x17 v8 ((h1 (hC28.ro 6 z)).now (Ay _ _)) (x12.1.1,x12.1.2) v7 ((hC28.ro 2 z).now (Ay _ _)) x21.1 x22 hr11)<|?_
     rintro v10 w16 ⟨hB9,F1,hv2,hn6,hb6⟩
     have hC29:=hC28.push hB9 (A:=Ad v10 x22) hv2 hn6 hb6
     refine Aa<|oe 1 z<|Az [(I x12.1.1),v7] hC29 2 z z z Bu AP z z<|Aa<|tk 9 z z (BR (vs:=[(0,(.agg #[(I x12.1.1),v7])),(1,v10)]) z z (built84_0_1 z (ro_cells (hC29.ro 0 z))))<|B4 (vs:=[(0,(.agg #[(I x12.1.1),v7])),(1,v10)]) z z z (built84_0_1 z (ro_cells (hC29.ro 0 z)))<|Aa<|oe 10 z<|Ar (vs:=[(.agg #[(I x12.1.1),v7,v10])]) hC29 A8 ty84 z z z z (fac z<|fa0) z z fun b3 w17 hC30 hB10=>?_
     have hC31:=hC30.row0 (α:=Td)
     have hC33:=hC31.f2
     have hC34:=hC33.f5
     have hC32:=BW x12.1.1 v7 x12.1.2 v10 x22 hC34
     have hC35:=hC32.row1
     have hC36:=hC35.front 1 z
     dsimp only [List.eraseIdx,List.cons_append,List.nil_append,List.append_nil] at hC36
     have hC37:Ctx Fs.flatten w0 w17 (Ad (.slice (some ⟨b3,0,none⟩) 1 1) ([((x12.1.1,x12.1.2),x22)]:List Td)::[Ah pb1 [u1,(I x21.2.2.1),(I x21.2.2.2)],Ah b2 [(I x12.1.1),v7],Ad v4 x5,Ad v1 x1.1,Ad v2 x1.2.1,Ad v3 x1.2.2.1]):=hC36.rowOwn (by simp [maxLen])
     refine Aa<|be hr9 fun x23 hx2 hr9=>oe 11 z<|Bf hC37 2 z A8 ty84 z hx2 z z z fun v11 w18 hC38=>?_
     try dsimp only [List.set] at hC38
     refine Aa<|ta 12 z z z<|dn<|?_
     have hC40:=hC38.f5
     have hC41:=hC40.f5
     have hC42:=hC41.f5
     have hC43:=hC42.f5
     have hC44:=hC43.f4
     have hC45:=hC44.h5
     exact nS<|⟨x21.2.2.1,x21.2.2.2,v11,x23,Ab hr9,z,hC45⟩
    rintro _ w13 ⟨x18,x19,v9,x20,rfl,rfl,hC25⟩
    try dsimp only at hL1
    exact AL<|Ae z z<|Cb z z z<|Af z z<|Aa<|nS<|⟨k1,Aw _,x18,x19,v9,x20,w64 (x6 - 1),z,hC25,hL1⟩
   refine A5<|Am<|be hL1 fun r5 hr12 hL1=>wB (fun l w=>∃x24:Int,∃x25:Int,∃v12:Value,∃x26:Tg,(x24,x25,x26)=r5∧l=[(0,(ptr pb1 0)),(6,v1),(7,v2),(8,v3),(9,v12),(10,(I x6))]∧Ctx Fs.flatten w0 w [Ah pb1 [u1,(I x24),(I x25)],Ad v12 x26,Ad v1 x1.1,Ad v2 x1.2.1,Ad v3 x1.2.2.1]) ?_ ?_
   ·refine W_drawn 13 z hmix fun w20 hB12=>have hC47:=hC15.grow hB12;tm 0 z z z<|tm 2 z z z<|tm 3 z z z<|tm 4 z z z<|tm 6 z z z<|WA_all3 (i:=1) (j:=5) (m:=7) (by kernel_rfl) z z z ?_ ?_ ?_
    ·refine Az [(I x12.1.1),v7] hC47 0 z z z Bu AP z z<|Aa<|Cx (i:=5) (j:=7) (by kernel_rfl) z z ?_ ?_
     ·refine Az [(I x12.1.1),v7] hC47 0 z z z Bu AP z z<|Aa<|be hr12 fun x27 hr13 hr12=>oe 7 z<|have hC48:=hC47.f2;?_
      obtain ⟨Fs6,hH6,hn7,hF6,hO6,hb7⟩:=hC48.lA
      refine AA Bp z z (c_S_l1Below pb1 (a1.1,x13,x14) u1 (Bd g1 hC48.keep hF6) 3 hH6 hn7 x27 hr13) ?_
      rintro _ w21 ⟨rfl,hq11⟩
      have hC49:=hb7 _ _ hq11
      refine Aa<|be hr12 fun x28 hr14 hr12=>oe 8 z<|AA BO z z (c_S_RespondTo x1.1 v1 ((hC49.ro 4 z).now (Ay _ _)) x1.2.1 v2 ((hC49.ro 5 z).now (Ay _ _)) x1.2.2.1 v3 ((hC49.ro 6 z).now (Ay _ _)) (x12.1.1,x12.1.2) v7 ((hC49.ro 2 z).now (Ay _ _)) x27.1 x28 hr14)<|?_
      rintro v13 w22 ⟨hB13,F2,hv3,hn8,hb8⟩
      have hC50:=hC49.push hB13 (A:=Ad v13 x28) hv3 hn8 hb8
      refine Aa<|tk 9 z z (BR (vs:=[(0,(.agg #[(I x12.1.1),v7])),(1,v13)]) z z (built84_0_1 z (ro_cells (hC50.ro 0 z))))<|B4 (vs:=[(0,(.agg #[(I x12.1.1),v7])),(1,v13)]) z z z (built84_0_1 z (ro_cells (hC50.ro 0 z)))<|Aa<|oe 10 z<|Ar (vs:=[(.agg #[(I x12.1.1),v7,v13])]) hC50 A8 ty84 z z z z (fac z<|fa0) z z fun b4 w23 hC51 hB14=>?_
      have hC52:=hC51.row0 (α:=Td)
      have hC54:=hC52.f2
      have hC55:=hC54.f5
      have hC53:=BW x12.1.1 v7 x12.1.2 v13 x28 hC55
      have hC56:=hC53.row1
      have hC57:=hC56.front 1 z
      dsimp only [List.eraseIdx,List.cons_append,List.nil_append,List.append_nil] at hC57
      have hC58:Ctx Fs.flatten w0 w23 (Ad (.slice (some ⟨b4,0,none⟩) 1 1) ([((x12.1.1,x12.1.2),x28)]:List Td)::[Ah pb1 [u1,(I x27.2.2.1),(I x27.2.2.2)],Ah b2 [(I x12.1.1),v7],Ad v4 x5,Ad v1 x1.1,Ad v2 x1.2.1,Ad v3 x1.2.2.1]):=hC57.rowOwn (by simp [maxLen])
      refine Aa<|be hr12 fun x29 hx3 hr12=>oe 11 z<|Bf hC58 2 z A8 ty84 z hx3 z z z fun v14 w24 hC59=>?_
      try dsimp only [List.set] at hC59
      refine Aa<|ta 12 z z z<|dn<|?_
      have hC61:=hC59.f5
      have hC62:=hC61.f5
      have hC63:=hC62.f5
      have hC64:=hC63.f5
      have hC65:=hC64.f4
      have hC66:=hC65.h5
      exact nS<|⟨x27.2.2.1,x27.2.2.2,v14,x29,Ab hr12,z,hC66⟩
     refine be hr12 fun x27 hr13 hr12=>have hC48:=hC47.f2;?_
     obtain ⟨Fs6,hH6,hn7,hF6,hO6,hb7⟩:=hC48.lA
     refine AA Bp z z (c_S_l1Below pb1 (a1.1,x13,x14) u1 (Bd g1 hC48.keep hF6) 3 hH6 hn7 x27 hr13) ?_
     rintro _ w21 ⟨rfl,hq11⟩
     have hC49:=hb7 _ _ hq11
     refine Aa<|oe 5 z<|Az [(I x12.1.1),v7] hC49 1 z z z Bu AP z z<|Aa<|be hr12 fun x28 hr14 hr12=>oe 8 z<|AA BO z z (c_S_RespondTo x1.1 v1 ((hC49.ro 4 z).now (Ay _ _)) x1.2.1 v2 ((hC49.ro 5 z).now (Ay _ _)) x1.2.2.1 v3 ((hC49.ro 6 z).now (Ay _ _)) (x12.1.1,x12.1.2) v7 ((hC49.ro 2 z).now (Ay _ _)) x27.1 x28 hr14)<|?_
     rintro v13 w22 ⟨hB13,F2,hv3,hn8,hb8⟩
     have hC50:=hC49.push hB13 (A:=Ad v13 x28) hv3 hn8 hb8
     refine Aa<|tk 9 z z (BR (vs:=[(0,(.agg #[(I x12.1.1),v7])),(1,v13)]) z z (built84_0_1 z (ro_cells (hC50.ro 0 z))))<|B4 (vs:=[(0,(.agg #[(I x12.1.1),v7])),(1,v13)]) z z z (built84_0_1 z (ro_cells (hC50.ro 0 z)))<|Aa<|oe 10 z<|Ar (vs:=[(.agg #[(I x12.1.1),v7,v13])]) hC50 A8 ty84 z z z z (fac z<|fa0) z z fun b4 w23 hC51 hB14=>?_
     have hC52:=hC51.row0 (α:=Td)
     have hC54:=hC52.f2
     have hC55:=hC54.f5
     have hC53:=BW x12.1.1 v7 x12.1.2 v13 x28 hC55
     have hC56:=hC53.row1
     have hC57:=hC56.front 1 z
     dsimp only [List.eraseIdx,List.cons_append,List.nil_append,List.append_nil] at hC57
     have hC58:Ctx Fs.flatten w0 w23 (Ad (.slice (some ⟨b4,0,none⟩) 1 1) ([((x12.1.1,x12.1.2),x28)]:List Td)::[Ah pb1 [u1,(I x27.2.2.1),(I x27.2.2.2)],Ah b2 [(I x12.1.1),v7],Ad v4 x5,Ad v1 x1.1,Ad v2 x1.2.1,Ad v3 x1.2.2.1]):=hC57.rowOwn (by simp [maxLen])
     refine Aa<|be hr12 fun x29 hx3 hr12=>oe 11 z<|Bf hC58 2 z A8 ty84 z hx3 z z z fun v14 w24 hC59=>?_
     try dsimp only [List.set] at hC59
     refine Aa<|ta 12 z z z<|dn<|?_
     have hC61:=hC59.f5
     have hC62:=hC61.f5
     have hC63:=hC62.f5
     have hC64:=hC63.f5
     have hC65:=hC64.f4
     have hC66:=hC65.h5
     exact nS<|⟨x27.2.2.1,x27.2.2.2,v14,x29,Ab hr12,z,hC66⟩
    ·refine Az [(I x12.1.1),v7] hC47 0 z z z Bu AP z z<|Aa<|Cx (i:=1) (j:=7) (by kernel_rfl) z z ?_ ?_
     ·refine Az [(I x12.1.1),v7] hC47 0 z z z Bu AP z z<|Aa<|be hr12 fun x27 hr13 hr12=>oe 7 z<|have hC48:=hC47.f2;?_
      obtain ⟨Fs6,hH6,hn7,hF6,hO6,hb7⟩:=hC48.lA
      refine AA Bp z z (c_S_l1Below pb1 (a1.1,x13,x14) u1 (Bd g1 hC48.keep hF6) 3 hH6 hn7 x27 hr13) ?_
      rintro _ w21 ⟨rfl,hq11⟩
      have hC49:=hb7 _ _ hq11
      refine Aa<|be hr12 fun x28 hr14 hr12=>oe 8 z<|AA BO z z (c_S_RespondTo x1.1 v1 ((hC49.ro 4 z).now (Ay _ _)) x1.2.1 v2 ((hC49.ro 5 z).now (Ay _ _)) x1.2.2.1 v3 ((hC49.ro 6 z).now (Ay _ _)) (x12.1.1,x12.1.2) v7 ((hC49.ro 2 z).now (Ay _ _)) x27.1 x28 hr14)<|?_
      rintro v13 w22 ⟨hB13,F2,hv3,hn8,hb8⟩
      have hC50:=hC49.push hB13 (A:=Ad v13 x28) hv3 hn8 hb8
      refine Aa<|tk 9 z z (BR (vs:=[(0,(.agg #[(I x12.1.1),v7])),(1,v13)]) z z (built84_0_1 z (ro_cells (hC50.ro 0 z))))<|B4 (vs:=[(0,(.agg #[(I x12.1.1),v7])),(1,v13)]) z z z (built84_0_1 z (ro_cells (hC50.ro 0 z)))<|Aa<|oe 10 z<|Ar (vs:=[(.agg #[(I x12.1.1),v7,v13])]) hC50 A8 ty84 z z z z (fac z<|fa0) z z fun b4 w23 hC51 hB14=>?_
      have hC52:=hC51.row0 (α:=Td)
      have hC54:=hC52.f2
      have hC55:=hC54.f5
      have hC53:=BW x12.1.1 v7 x12.1.2 v13 x28 hC55
      have hC56:=hC53.row1
      have hC57:=hC56.front 1 z
      dsimp only [List.eraseIdx,List.cons_append,List.nil_append,List.append_nil] at hC57
      have hC58:Ctx Fs.flatten w0 w23 (Ad (.slice (some ⟨b4,0,none⟩) 1 1) ([((x12.1.1,x12.1.2),x28)]:List Td)::[Ah pb1 [u1,(I x27.2.2.1),(I x27.2.2.2)],Ah b2 [(I x12.1.1),v7],Ad v4 x5,Ad v1 x1.1,Ad v2 x1.2.1,Ad v3 x1.2.2.1]):=hC57.rowOwn (by simp [maxLen])
      refine Aa<|be hr12 fun x29 hx3 hr12=>oe 11 z<|Bf hC58 2 z A8 ty84 z hx3 z z z fun v14 w24 hC59=>?_
      try dsimp only [List.set] at hC59
      refine Aa<|ta 12 z z z<|dn<|?_
      have hC61:=hC59.f5
      have hC62:=hC61.f5
      have hC63:=hC62.f5
      have hC64:=hC63.f5
      have hC65:=hC64.f4
      have hC66:=hC65.h5
      exact nS<|⟨x27.2.2.1,x27.2.2.2,v14,x29,Ab hr12,z,hC66⟩
     refine be hr12 fun x27 hr13 hr12=>have hC48:=hC47.f2;?_
     obtain ⟨Fs6,hH6,hn7,hF6,hO6,hb7⟩:=hC48.lA
     refine AA Bp z z (c_S_l1Below pb1 (a1.1,x13,x14) u1 (Bd g1 hC48.keep hF6) 3 hH6 hn7 x27 hr13) ?_
     rintro _ w21 ⟨rfl,hq11⟩
     have hC49:=hb7 _ _ hq11
     refine Aa<|be hr12 fun x28 hr14 hr12=>wAS (l':=[(0,(ptr pb1 0)),(6,v1),(7,v2),(8,v3),(9,v4),(10,(I x6)),(11,(ptr b2 0)),(12,v3),(41,(.bool x15)),(44,v4),(46,v1),(47,v2),(48,v3),(49,(.agg #[(I x12.1.1),v7])),(50,(ptr pb1 0)),(51,(I x27.1))]) ⟨z,z,z,z,z,z,z,z,z,z,z,z,z,z,z,z,A6⟩<|Bg [⟨1,[],fun vs=>AQ (.agg #[(I x12.1.1),v7]),[]⟩,⟨8,[],fun vs=>BS x28,[]⟩] [[],[]] 4 z (by kernel_rfl) (by kernel_rfl) z ?_ ?_
     ·refine An z ?_ ?_
      ·intro w23 hB14
       refine At<|⟨_,z,?_⟩
       exact Az [(I x12.1.1),v7] (hC49.grow hB14) 1 z z z Bu AP z z<|Aa<|A1 (Aj _ _) z z ⟨z,z⟩
      refine An z ?_ ?_
      ·intro w23 hB14
       refine At<|⟨_,z,?_⟩
       refine AA BO z z (c_S_RespondTo x1.1 v1 ((hC49.grow hB14).ro 4 z) x1.2.1 v2 ((hC49.grow hB14).ro 5 z) x1.2.2.1 v3 ((hC49.grow hB14).ro 6 z) (x12.1.1,x12.1.2) v7 ((hC49.grow hB14).ro 2 z) x27.1 x28 hr14) ?_
       rintro v13 w22 ⟨hB13,F2,hv3,hn8,hb8⟩
       exact Aa<|BZ hB13 z z hv3 hn8 hb8 (Val.inh hv3)
      exact AX
     intro w24 hB15
     refine Ap z z z ?_
     rintro _ _ ⟨rfl,rfl⟩
     refine Ap z z z fun v13 F2 hv3=>Bm fun hn9 hb9=>?_
     have hC50:=hC49.pushL hB15 (Bs:=[Ad v13 x28]) (Fs:=[F2]) ⟨F2,_,z,hv3,z⟩ (by simpa using hn9) (fun b h=>(hb9 b (by simpa using h)).1)
     refine tk 9 z z (BR (vs:=[(0,(.agg #[(I x12.1.1),v7])),(1,v13)]) z z (built84_0_1 z (ro_cells (hC50.ro 0 z))))<|B4 (vs:=[(0,(.agg #[(I x12.1.1),v7])),(1,v13)]) z z z (built84_0_1 z (ro_cells (hC50.ro 0 z)))<|Aa<|oe 10 z<|Ar (vs:=[(.agg #[(I x12.1.1),v7,v13])]) hC50 A8 ty84 z z z z (fac z<|fa0) z z fun b4 w25 hC51 hB16=>?_
     have hC52:=hC51.row0 (α:=Td)
     have hC54:=hC52.f2
     have hC55:=hC54.f5
     have hC53:=BW x12.1.1 v7 x12.1.2 v13 x28 hC55
     have hC56:=hC53.row1
     have hC57:=hC56.front 1 z
     dsimp only [List.eraseIdx,List.cons_append,List.nil_append,List.append_nil] at hC57
     have hC58:Ctx Fs.flatten w0 w25 (Ad (.slice (some ⟨b4,0,none⟩) 1 1) ([((x12.1.1,x12.1.2),x28)]:List Td)::[Ah pb1 [u1,(I x27.2.2.1),(I x27.2.2.2)],Ah b2 [(I x12.1.1),v7],Ad v4 x5,Ad v1 x1.1,Ad v2 x1.2.1,Ad v3 x1.2.2.1]):=hC57.rowOwn (by simp [maxLen])
     refine Aa<|be hr12 fun x29 hx3 hr12=>oe 11 z<|Bf hC58 2 z A8 ty84 z hx3 z z z fun v14 w26 hC59=>?_
     try dsimp only [List.set] at hC59
     refine Aa<|ta 12 z z z<|dn<|?_
     have hC61:=hC59.f5
     have hC62:=hC61.f5
     have hC63:=hC62.f5
     have hC64:=hC63.f5
     have hC65:=hC64.f4
     have hC66:=hC65.h5
     exact nS<|⟨x27.2.2.1,x27.2.2.2,v14,x29,Ab hr12,z,hC66⟩
    refine be hr12 fun x27 hr13 hr12=>have hC48:=hC47.f2;?_
    obtain ⟨Fs6,hH6,hn7,hF6,hO6,hb7⟩:=hC48.lA
    refine AA Bp z z (c_S_l1Below pb1 (a1.1,x13,x14) u1 (Bd g1 hC48.keep hF6) 3 hH6 hn7 x27 hr13) ?_
    rintro _ w21 ⟨rfl,hq11⟩
    have hC49:=hb7 _ _ hq11
    refine Aa<|be hr12 fun x28 hr14 hr12=>wAS (l':=[(0,(ptr pb1 0)),(6,v1),(7,v2),(8,v3),(9,v4),(10,(I x6)),(11,(ptr b2 0)),(12,v3),(41,(.bool x15)),(44,v4),(46,v1),(47,v2),(48,v3),(50,(ptr pb1 0)),(51,(I x27.1))]) ⟨z,z,z,z,z,z,z,z,z,z,z,z,z,z,z,A6⟩<|Bg [⟨1,[],fun vs=>AQ (.agg #[(I x12.1.1),v7]),[]⟩,⟨5,[],fun vs=>AQ (.agg #[(I x12.1.1),v7]),[]⟩,⟨8,[],fun vs=>BS x28,[]⟩] [[],[],[5]] 4 z (by kernel_rfl) (by kernel_rfl) z ?_ ?_
    ·refine An z ?_ ?_
     ·intro w23 hB14
      refine At<|⟨_,z,?_⟩
      exact Az [(I x12.1.1),v7] (hC49.grow hB14) 1 z z z Bu AP z z<|Aa<|A1 (Aj _ _) z z ⟨z,z⟩
     refine An z ?_ ?_
     ·intro w23 hB14
      refine At<|⟨_,z,?_⟩
      exact Az [(I x12.1.1),v7] (hC49.grow hB14) 1 z z z Bu AP z z<|Aa<|A1 (Aj _ _) z z ⟨z,z⟩
     refine An z ?_ ?_
     ·intro w23 hB14
      refine AG z z z ?_
      rintro _ _ ⟨rfl,rfl⟩ _
      refine At<|⟨_,z,?_⟩
      refine AA BO z z (c_S_RespondTo x1.1 v1 ((hC49.grow hB14).ro 4 z) x1.2.1 v2 ((hC49.grow hB14).ro 5 z) x1.2.2.1 v3 ((hC49.grow hB14).ro 6 z) (x12.1.1,x12.1.2) v7 ((hC49.grow hB14).ro 2 z) x27.1 x28 hr14) ?_
      rintro v13 w22 ⟨hB13,F2,hv3,hn8,hb8⟩
      exact Aa<|BZ hB13 z z hv3 hn8 hb8 (Val.inh hv3)
     exact AX
    intro w24 hB15
    refine Ap z z z ?_
    rintro _ _ ⟨rfl,rfl⟩
    refine Ap z z z ?_
    rintro _ _ ⟨rfl,rfl⟩
    refine Ap z z z fun v13 F2 hv3=>Bm fun hn9 hb9=>?_
    have hC50:=hC49.pushL hB15 (Bs:=[Ad v13 x28]) (Fs:=[F2]) ⟨F2,_,z,hv3,z⟩ (by simpa using hn9) (fun b h=>(hb9 b (by simpa using h)).1)
    refine tk 9 z z (BR (vs:=[(0,(.agg #[(I x12.1.1),v7])),(1,v13)]) z z (built84_0_1 z (ro_cells (hC50.ro 0 z))))<|B4 (vs:=[(0,(.agg #[(I x12.1.1),v7])),(1,v13)]) z z z (built84_0_1 z (ro_cells (hC50.ro 0 z)))<|Aa<|oe 10 z<|Ar (vs:=[(.agg #[(I x12.1.1),v7,v13])]) hC50 A8 ty84 z z z z (fac z<|fa0) z z fun b4 w25 hC51 hB16=>?_
    have hC52:=hC51.row0 (α:=Td)
    have hC54:=hC52.f2
    have hC55:=hC54.f5
    have hC53:=BW x12.1.1 v7 x12.1.2 v13 x28 hC55
    have hC56:=hC53.row1
    have hC57:=hC56.front 1 z
    dsimp only [List.eraseIdx,List.cons_append,List.nil_append,List.append_nil] at hC57
    have hC58:Ctx Fs.flatten w0 w25 (Ad (.slice (some ⟨b4,0,none⟩) 1 1) ([((x12.1.1,x12.1.2),x28)]:List Td)::[Ah pb1 [u1,(I x27.2.2.1),(I x27.2.2.2)],Ah b2 [(I x12.1.1),v7],Ad v4 x5,Ad v1 x1.1,Ad v2 x1.2.1,Ad v3 x1.2.2.1]):=hC57.rowOwn (by simp [maxLen])
    refine Aa<|be hr12 fun x29 hx3 hr12=>oe 11 z<|Bf hC58 2 z A8 ty84 z hx3 z z z fun v14 w26 hC59=>?_
    try dsimp only [List.set] at hC59
    refine Aa<|ta 12 z z z<|dn<|?_
    have hC61:=hC59.f5
    have hC62:=hC61.f5
    have hC63:=hC62.f5
    have hC64:=hC63.f5
    have hC65:=hC64.f4
    have hC66:=hC65.h5
    exact nS<|⟨x27.2.2.1,x27.2.2.2,v14,x29,Ab hr12,z,hC66⟩
   rintro _ w19 ⟨x24,x25,v12,x26,rfl,rfl,hC46⟩
   try dsimp only at hL1
   exact AL<|Ae z z<|Cb z z z<|Af z z<|Aa<|nS<|⟨k1,Aw _,x24,x25,v12,x26,w64 (x6 - 1),z,hC46,hL1⟩
  refine Bi (A2 (A2 (AM ?_)))
  exact nS<|⟨x3,x4,v4,x5,Ab hL1,z,hC9⟩
 rintro _ w27 ⟨x7,x8,v5,x9,rfl,rfl,hC67⟩
 try dsimp only at hF
 refine A0<|Ac<|Ae z z<|be hF fun x30 hr15 hF=>?_
 obtain ⟨Fs7,hH7,hn10,hF7,hO7,hb10⟩:=hC67.lA
 refine AA Cp z z (c_S_l1Once pb1 (a1.1,x7,x8) u1 (Bd g1 hC67.keep hF7) 10 hH7 hn10 x30 hr15) ?_
 rintro _ w28 ⟨rfl,hq14⟩
 have hC68:=hb10 _ _ hq14
 refine Aa<|be hF fun r6 hr16 hF=>wN (fun l w=>∃x31:Int,∃x32:Int,∃v15:Value,∃x33:Tg,(x31,x32,x33)=r6∧l=[(6,v1),(7,v2),(8,v3),(9,v15)]∧Ctx Fs.flatten w0 w [Ah pb1 [u1,(I x31),(I x32)],Ad v15 x33,Ad v1 x1.1,Ad v2 x1.2.1,Ad v3 x1.2.2.1]) ?_ ?_
 ·refine wc hr16 z (fun hr16=>?_) fun hr16=>?_
  ·refine AL<|Ae z z<|Ae z z<|Ae z z<|be hr16 fun x34 hr17 hr16=>?_
   obtain ⟨Fs8,hH8,hn11,hF8,hO8,hb11⟩:=hC68.lB
   refine AA Tryz.call115 z z (c_S_l5AnyAccess pb1 (a1.1,x30.2.2.1,x30.2.2.2) u1 (Bd g1 hC68.keep hF8) x1.2.1 v2 (hO8 2 _ _ _ z) hH8 hn11 x34 hr17) ?_
   rintro v16 w30 ⟨_,rfl,hq15⟩
   have hC70:=hb11 _ _ _ hq15
   obtain ⟨v17,rfl,hC71⟩:=st82_own hC70
   refine Ae z z<|Ae z z<|be hr16 fun x35 hr18 hr16=>have hC72:=hC71.f1;?_
   obtain ⟨Fs9,hH9,hn12,hF9,hO9,hb12⟩:=hC72.lB
   refine AA Tryz.call116 z z (c_S_l2AnyFacts pb1 (a1.1,x34.2.2.1,x34.2.2.2) u1 (Bd g1 hC72.keep hF9) x1.1 v1 (hO9 2 _ _ _ z) hH9 hn12 x35 hr18) ?_
   rintro v18 w31 ⟨_,rfl,hq16⟩
   have hC73:=hb12 _ _ _ hq16
   refine B4 (vs:=[(0,(.agg #[(I x34.1.1),v17])),(1,v18)]) z z z (built84_0_1 z (ro_cells (hC73.ro 0 z)))<|Ar (vs:=[(.agg #[(I x34.1.1),v17,v18])]) hC73 A8 ty84 z z z z (fac z<|fa0) z z fun b5 w32 hC74 hB19=>?_
   have hC75:=hC74.row0 (α:=Td)
   have hC78:=hC75.f2.f4
   have hC76:=BW x34.1.1 v17 x34.1.2 v18 x35.1 hC78
   have hC79:=hC76.row1
   have hC80:=hC79.front 1 z
   dsimp only [List.eraseIdx,List.cons_append,List.nil_append,List.append_nil] at hC80
   have hC81:Ctx Fs.flatten w0 w32 (Ad (.slice (some ⟨b5,0,none⟩) 1 1) ([((x34.1.1,x34.1.2),x35.1)]:List Td)::[Ah pb1 [u1,(I x35.2.2.1),(I x35.2.2.2)],Ad v5 x9,Ad v1 x1.1,Ad v2 x1.2.1,Ad v3 x1.2.2.1]):=hC80.rowOwn (by simp [maxLen])
   refine be hr16 fun x36 hx4 hr16=>Bf hC81 1 z A8 ty84 z hx4 z z z fun v19 w33 hC82=>?_
   try dsimp only [List.set] at hC82
   exact Af z z<|Aa<|nS<|⟨x35.2.2.1,x35.2.2.2,v19,x36,Ab hr16,z,hC82⟩
  exact A5<|nS<|⟨x30.2.2.1,x30.2.2.2,v5,x9,Ab hr16,z,hC68⟩
 rintro _ w29 ⟨x31,x32,v15,x33,rfl,rfl,hC69⟩
 try dsimp only at hF
 refine Ac<|Ae z z<|Ae z z<|Ae z z<|Ae z z<|Af z z<|Af z z<|Af z z<|Af z z<|Aa<|AF<|?_
 obtain rfl:=Ab hF
 exact fn_ret4 z z z z z<|have hC84:=hC69.f1;have hC85:=hC84.f4;have hC86:=hC85.f4;have hC87:=hC86.f4;⟨_,z,_,_,_,_,z,hC87⟩
theorem c_S_DrawFirstConflict {w0:World} (a1:Tm) (u1:Value) (g1:RO [] w0 u1 a1) (rr:To) (hF:S.DrawFirstConflict a1=some rr) :
 Calls Tryz.prog 45 [u1].toArray w0 fun e w'=>∃v,e=.returned v∧Res3 w0 rr.1 rr.2.1 rr.2.2 v w':=by
 refine Av Tryz.func45 z z ?_
 have hC0:=A3 w0
 unfold S.DrawFirstConflict at hF
 refine Ac<|Af z z<|Af z z<|Af z z<|Aa<|Ac<|Ae z z<|be hF fun x1 hr1 hF=>AA Tryz.call63 z z (c_S_l1New a1 u1 (g1.now hC0.keep) x1 hr1)<|?_
 rintro _ w1 ⟨b1,rfl,hq1⟩
 have hC1:Ctx [] w0 w1 [Ah b1 [u1,(I x1.2.1),(I x1.2.2)]]:=hC0.push2 hq1
 obtain ⟨x2,hr2,hF⟩:=bind_some hF
 obtain ⟨Fs2,hH2,hn2,hF2,hO2,hb2⟩:=Dh (As:=[]) [Ah b1 [u1,(I x1.2.1),(I x1.2.2)]] hC1
 refine AA Tryz.call64 z z (c_S_l28List b1 (a1,x1.2.1,x1.2.2) u1 (Bd g1 hC1.keep hF2) hH2 hn2 x2 hr2) ?_
 rintro _ w2 ⟨v1,v2,v3,v4,rfl,hq2⟩
 have hC2:Ctx [] w0 w2 [Ad v1 x2.1,Ad v2 x2.2.1,Ad v3 x2.2.2.1,Ad v4 x2.2.2.2.1,Ah b1 [u1,(I x2.2.2.2.2.2.1),(I x2.2.2.2.2.2.2)]]:=hb2 _ _ hq2
 refine Ae z z<|Bk z z z<|Bk z z z<|Bk z z z<|Bk z z z<|Af z z<|Af z z<|Af z z<|Af z z<|Aa<|Ac<|Ae z z<|Ae z z<|Ae z z<|Af z z<|Af z z<|Af z z<|Aa<|AF<|?_
 obtain rfl:=Ab hF
 exact C1 z z z z<|have hC3:=hC2.f3;have hC4:=hC3.f2;have hC5:=hC4.f2;⟨_,z,res3_of hC5⟩
theorem c_S_DrawSmallestRemoval {w0:World} (a1:Tm) (u1:Value) (g1:RO [] w0 u1 a1) (rr:To) (hF:S.DrawSmallestRemoval a1=some rr) :
 Calls Tryz.prog 6 [u1].toArray w0 fun e w'=>∃v,e=.returned v∧Res3 w0 rr.1 rr.2.1 rr.2.2 v w':=by
 refine Av Tryz.func6 z z ?_
 have hC0:=A3 w0
 unfold S.DrawSmallestRemoval at hF
 refine Ac<|Af z z<|Af z z<|Af z z<|Aa<|Ac<|Ae z z<|be hF fun x1 hr1 hF=>AA Tryz.call45 z z (c_S_DrawFirstConflict a1 u1 (g1.now hC0.keep) x1 hr1)<|?_
 rintro _ w1 ⟨hB1,v1,v2,v3,F1,F2,F3,rfl,hv1,hv2,hv3,hn1,hb1⟩
 have hC1:=hC0.pushL hB1 (Bs:=[Ad v1 x1.1,Ad v2 x1.2.1,Ad v3 x1.2.2]) (Fs:=[F1,F2,F3]) ⟨F1,_,z,hv1,F2,_,z,hv2,F3,_,z,hv3,z⟩ (by simpa using hn1) (fun b h=>hb1 b (by simpa using h))
 refine Ae z z<|Bk z z z<|Bk z z z<|Bk z z z<|Af z z<|Af z z<|Af z z<|Aa<|Ac<|Ae z z<|Ae z z<|Ae z z<|Af z z<|Af z z<|Af z z<|Aa<|AF<|?_
 obtain rfl:=Ab hF
 exact C1 z z z z<|have hC2:=hC1.f2;have hC3:=hC2.f2;have hC4:=hC3.f2;⟨_,z,res3_of hC4⟩
theorem c_M_within {w0:World} (a1:Int) (a2:Int) (a3:Int) (rr:Bool) (hF:M.within a1 a2 a3=some rr) :
 Calls Tryz.prog 119 [(I a1),(I a2),(I a3)].toArray w0 fun e w'=>∃v,e=.returned v∧Res w0 rr v w':=by
 refine Av Tryz.func119 z z ?_
 have hC0:=A3 w0
 unfold M.within at hF
 refine Ac<|Af z z<|Aa<|be hF fun r1 hr1 hF=>B9 (fun l w=>∃x1:Bool,x1=r1∧l=[(6,(.bool x1))]∧Below w0.heap.size w0 w∧Ctx [] w0 w []) ?_ ?_
 ·refine AL<|Ae z z<|Ae z z<|Cr z z z<|Ae z z<|wk hr1 (fun hr1=>?_) fun hr1=>?_
  ·exact Ai z z<|Ae z z<|Ai z z<|Ae z z<|Ai z z<|Cv z z z<|AJ z z z<|Af z z<|Aa<|nS<|⟨(decide (a1 ≤ a3)),Ab hr1,z,(Aj _ _),hC0⟩
  exact gs z z z z<|gs z z z z<|gs z z z z<|AK z z z<|Af z z<|Aa<|nS<|⟨false,Ab hr1,z,(Aj _ _),hC0⟩
 rintro _ w1 ⟨x1,rfl,rfl,hB1,hC1⟩
 exact AF<|rB hF z z hC1
theorem c_M_IsSchema_c1 {w0:World} (a1:Int) (rr:Bool) (hF:M.IsSchema_c1 a1=some rr) :
 Calls Tryz.prog 154 [(I a1)].toArray w0 fun e w'=>∃v,e=.returned v∧Res w0 rr v w':=by
 refine Av Tryz.func154 z z ?_
 have hC0:=A3 w0
 unfold M.IsSchema_c1 at hF
 exact Ac<|Af z z<|Aa<|Ac<|Ae z z<|be hF fun x1 hr1 hF=>cb BV z z (c_M_within a1 1 3 x1 hr1) fun w1 hB1=>have hC1:=hC0.grow hB1;Bv z z<|Af z z<|Aa<|AF<|rB hF z z hC1
theorem c_Slices_IndexFunc_Lint_int_M_IsSchema_c1 {w0:World} (a1:Ta) (u1:Value) (g1:RO [] w0 u1 a1) (rr:Int) (hF:Slices.IndexFunc_Lint_int_M_IsSchema_c1 a1=some rr) :
 Calls Tryz.prog 197 [u1,(.func (.func 154) #[] #[])].toArray w0 fun e w'=>∃v,e=.returned v∧Res w0 rr v w':=by
 refine Av CA z z ?_
 have hC0:=A3 w0
 unfold Slices.IndexFunc_Lint_int_M_IsSchema_c1 at hF
 refine Ac<|Af z z<|Aa<|A0<|Ac<|Ae z z<|AH Ag g1 z z<|Ae z z<|Aa<|be hF fun r1 hr1 hF=>wN (fun l w=>.inl ()=r1∧l=[]∧Below w0.heap.size w0 w∧Ctx [] w0 w []) ?_ ?_
 ·refine A4<|wT<|Bj (fun k l w=>∃x1:Int,l=[(0,u1),(1,(.func (.func 154) #[] #[])),(7,(I (List.length a1:Int))),(8,(I x1))]∧Below w0.heap.size w0 w∧Ctx [] w0 w []∧Slices.IndexFunc_Lint_int_M_IsSchema_c1_l1 a1 k x1=some r1) FUEL ⟨0,z,(Aj _ _),hC0,hr1⟩<|?_
  clear hr1
  rintro k1 _ w1 ⟨x1,rfl,hB1,hC1,hL1⟩
  obtain _|k1:=k1<;>rw [Slices.IndexFunc_Lint_int_M_IsSchema_c1_l1] at hL1
  ·cases hL1
  refine Ac<|AZ z z z<|Aa<|A0<|wc hL1 z (fun hL1=>?_) fun hL1=>?_
  ·refine A5<|Am<|A0<|A4<|Ac<|Ae z z<|Af z z<|Aa<|Ac<|Ae z z<|Ae z z<|Ae z z<|be hL1 fun x2 hx1 hL1=>A9 Ag ty3 g1 hx1 z z z fun b1 o1 h1=>AD ty3 h1 hC1.keep z z fun v1 h2=>?_
   obtain rfl:=Bo h2
   refine be hL1 fun x3 hr2 hL1=>BL (cap:=[]) Tryz.call154 z z z (c_M_IsSchema_c1 x2 x3 hr2) fun _ w2 hv1=>?_
   obtain ⟨rfl,hB2⟩:=BM hv1
   have hC2:=hC1.grow hB2
   refine Aa<|wc hL1 z (fun hL1=>?_) fun hL1=>?_
   ·refine Ac<|Ae z z<|Af z z<|Aa<|AF<|AT<|Ax<|Ax<|AT<|Ax<|Ax<|?_
    obtain rfl:=Ab hL1
    dsimp only at hF
    exact rI hF z z hC2
   exact A5<|AN<|Am<|AL<|AW z z z<|Ae z z<|Aa<|nS<|⟨k1,Aw _,w64 (x1+1),z,((Ao hB1).then hB2).below,hC2,hL1⟩
  refine Bi (A2 (A2 (AM ?_)))
  exact nS<|⟨Ab hL1,z,(Ao hB1).below,hC1⟩
 rintro _ w3 ⟨rfl,rfl,hB3,hC3⟩
 try dsimp only at hF
 exact Ac<|Af z z<|Aa<|AF<|rI hF z z hC3
theorem c_Slices_ContainsFunc_Lint_int_M_IsSchema_c1 {w0:World} (a1:Ta) (u1:Value) (g1:RO [] w0 u1 a1) (rr:Bool) (hF:Slices.ContainsFunc_Lint_int_M_IsSchema_c1 a1=some rr) :
 Calls Tryz.prog 153 [u1,(.func (.func 154) #[] #[])].toArray w0 fun e w'=>∃v,e=.returned v∧Res w0 rr v w':=by
 refine Av CB z z ?_
 have hC0:=A3 w0
 unfold Slices.ContainsFunc_Lint_int_M_IsSchema_c1 at hF
 exact Ac<|Af z z<|Aa<|Ac<|Ae z z<|Ae z z<|be hF fun x1 hr1 hF=>ci CC z z (c_Slices_IndexFunc_Lint_int_M_IsSchema_c1 a1 u1 (g1.now hC0.keep) x1 hr1) fun w1 hB1=>have hC1:=hC0.grow hB1;Cr z z z<|Af z z<|Aa<|AF<|rB hF z z hC1
theorem c_M_IsSchema {w0:World} (a1:Ta) (u1:Value) (g1:RO [] w0 u1 a1) (rr:Bool) (hF:M.IsSchema a1=some rr) :
 Calls Tryz.prog 98 [u1].toArray w0 fun e w'=>∃v,e=.returned v∧Res w0 rr v w':=by
 refine Av Tryz.func98 z z ?_
 have hC0:=A3 w0
 unfold M.IsSchema at hF
 refine Ac<|Af z z<|Aa<|be hF fun r1 hr1 hF=>B9 (fun l w=>∃x1:Bool,x1=r1∧l=[(2,(.bool x1))]∧Below w0.heap.size w0 w∧Ctx [] w0 w []) ?_ ?_
 ·refine AL<|Ae z z<|AH Ag g1 z z<|be hr1 fun x2 hr2 hr1=>cb BV z z (c_M_within (List.length a1:Int) 1 3 x2 hr2) fun w2 hB2=>have hC2:=hC0.grow hB2;Ae z z<|wk hr1 (fun hr1=>?_) fun hr1=>?_
  ·exact Ai z z<|Ae z z<|be hr1 fun x3 hr3 hr1=>Ai z z<|cb CD z z (c_Slices_ContainsFunc_Lint_int_M_IsSchema_c1 a1 u1 (g1.now hC2.keep) x3 hr3) fun w3 hB3=>have hC3:=hC2.grow hB3;Ai z z<|Bv z z<|AJ z z z<|Af z z<|Aa<|nS<|⟨(!x3),Ab hr1,z,((Ao hB2).then hB3).below,hC3⟩
  exact gs z z z z<|gs z z z z<|gs z z z z<|AK z z z<|Af z z<|Aa<|nS<|⟨false,Ab hr1,z,(Ao hB2).below,hC2⟩
 rintro _ w1 ⟨x1,rfl,rfl,hB1,hC1⟩
 exact AF<|rB hF z z hC1
theorem c_M_hasRel {w0:World} (a1:Ta) (u1:Value) (g1:RO [] w0 u1 a1) (a2:Int) (rr:Bool) (hF:M.hasRel a1 a2=some rr) :
 Calls Tryz.prog 156 [u1,(I a2)].toArray w0 fun e w'=>∃v,e=.returned v∧Res w0 rr v w':=by
 refine Av Tryz.func156 z z ?_
 have hC0:=A3 w0
 unfold M.hasRel at hF
 refine Ac<|Af z z<|Aa<|be hF fun r1 hr1 hF=>B9 (fun l w=>∃x1:Bool,x1=r1∧l=[(4,(.bool x1))]∧Below w0.heap.size w0 w∧Ctx [] w0 w []) ?_ ?_
 ·refine AL<|Ae z z<|be hr1 fun x2 hr2 hr1=>cb CY z z (c_M_IsSchema a1 u1 (g1.now hC0.keep) x2 hr2) fun w2 hB2=>have hC2:=hC0.grow hB2;Ae z z<|wk hr1 (fun hr1=>?_) fun hr1=>?_
  ·exact Ai z z<|Ae z z<|Ai z z<|Ae z z<|Ai z z<|AH Ag g1 z z<|Ai z z<|Cb z z z<|be hr1 fun x3 hr3 hr1=>Ai z z<|cb BV z z (c_M_within a2 0 (w64 ((List.length a1:Int) - 1)) x3 hr3) fun w3 hB3=>have hC3:=hC2.grow hB3;AJ z z z<|Af z z<|Aa<|nS<|⟨x3,Ab hr1,z,((Ao hB2).then hB3).below,hC3⟩
  exact gs z z z z<|gs z z z z<|gs z z z z<|gs z z z z<|gs z z z z<|AK z z z<|Af z z<|Aa<|nS<|⟨false,Ab hr1,z,(Ao hB2).below,hC2⟩
 rintro _ w1 ⟨x1,rfl,rfl,hB1,hC1⟩
 exact AF<|rB hF z z hC1
theorem c_M_ascending {w0:World} (a1:Ta) (u1:Value) (g1:RO [] w0 u1 a1) (rr:Bool) (hF:M.ascending a1=some rr) :
 Calls Tryz.prog 198 [u1].toArray w0 fun e w'=>∃v,e=.returned v∧Res w0 rr v w':=by
 refine Av Tryz.func198 z z ?_
 have hC0:=A3 w0
 unfold M.ascending at hF
 refine Ac<|Af z z<|Aa<|A0<|Ac<|Ae z z<|AH Ag g1 z z<|Ae z z<|Aa<|be hF fun r1 hr1 hF=>wN (fun l w=>.inl ()=r1∧l=[]∧Below w0.heap.size w0 w∧Ctx [] w0 w []) ?_ ?_
 ·refine A4<|wT<|Bj (fun k l w=>∃x1:Int,l=[(0,u1),(5,(I (List.length a1:Int))),(6,(I x1))]∧Below w0.heap.size w0 w∧Ctx [] w0 w []∧M.ascending_l1 a1 k x1=some r1) FUEL ⟨0,z,(Aj _ _),hC0,hr1⟩<|?_
  clear hr1
  rintro k1 _ w1 ⟨x1,rfl,hB1,hC1,hL1⟩
  obtain _|k1:=k1<;>rw [M.ascending_l1] at hL1
  ·cases hL1
  refine Ac<|AZ z z z<|Aa<|A0<|wc hL1 z (fun hL1=>?_) fun hL1=>?_
  ·refine A5<|Am<|A0<|A4<|Ac<|Ae z z<|Af z z<|Aa<|be hL1 fun r2 hr2 hL1=>B9 (fun l w=>∃x2:Bool,x2=r2∧l=[(0,u1),(5,(I (List.length a1:Int))),(6,(I x1)),(22,(.bool x2))]∧Below w1.heap.size w1 w∧Ctx [] w0 w []) ?_ ?_
   ·refine W_drawn 14 z hmix fun w3 hB3=>have hC3:=hC1.grow hB3;tm 0 z z z<|tk 1 z z (fl_gtr z z)<|Ck z z z<|Aa<|tm 2 z z z<|BJ (fun hc2=>?_) (fun hc2=>?_)
    ·replace hr2:=Cm hr2 hc2
     refine tn 3 z z z z z<|tn 4 z z z z z<|be hr2 fun x3 hx1 hr2=>tg 5 z z z z (B5 Ag ty3 g1 hx1 z z)<|Ai z z<|A9 Ag ty3 g1 hx1 z z z fun b1 o1 h1=>Aa<|tn 7 z z z z z<|tn 8 z z z z z<|tg 9 z z z z (CO z z)<|Ai z z<|Cb z z z<|Aa<|be hr2 fun x4 hx2 hr2=>tg 10 z z z z (B5 Ag ty3 g1 hx2 z z)<|Ai z z<|A9 Ag ty3 g1 hx2 z z z fun b2 o2 h2=>Aa<|wAS (l':=[(0,u1),(3,(I x1)),(5,(I (List.length a1:Int))),(6,(I x1)),(7,(.bool (decide (x1 < (List.length a1:Int))))),(8,(I x1)),(9,(I x1)),(10,(.bool (decide (0 < x1)))),(11,(.bool true)),(12,u1),(13,(I x1)),(14,(ptr b1 o1)),(16,u1),(17,(I x1)),(18,(I (w64 (x1 - 1)))),(19,(ptr b2 o2))]) ⟨z,z,z,z,z,z,z,z,z,z,z,z,z,z,z,z,A6⟩<|Bg [⟨6,[],fun vs=>AQ (I x3),[]⟩,⟨11,[],fun vs=>AQ (I x4),[]⟩] [[],[]] 2 z (by kernel_rfl) (by kernel_rfl) z ?_ ?_
     ·refine An z ?_ ?_
      ·intro w4 hB4
       refine At<|⟨_,z,?_⟩
       refine Ai z z<|AD ty3 h1 (hC3.keep.then hB4) z z fun v1 h3=>?_
       obtain rfl:=Bo h3
       exact Aa<|A1 (Aj _ _) z z ⟨z,z⟩
      refine An z ?_ ?_
      ·intro w4 hB4
       refine At<|⟨_,z,?_⟩
       refine Ai z z<|AD ty3 h2 (hC3.keep.then hB4) z z fun v2 h4=>?_
       obtain rfl:=Bo h4
       exact Aa<|A1 (Aj _ _) z z ⟨z,z⟩
      exact AX
     intro w5 hB5
     refine Ap z z z ?_
     rintro _ _ ⟨rfl,rfl⟩
     refine Ap z z z ?_
     rintro _ _ ⟨rfl,rfl⟩
     exact Bm fun hn1 hb1=>have hC4:=hC3.grow hB5;tg 12 z z z z (fl_leq z z)<|Ai z z<|Cv z z z<|Aa<|tp 13 z z z z<|dn<|nS<|⟨(decide (x3 ≤ x4)),Ab hr2,z,((Ao hB3).then hB5).below,hC4⟩
    replace hr2:=Cn hr2 hc2
    exact sk 3 z z z z z<|sk 4 z z z z z<|sk 5 z z z z z<|sk 6 z z z z z<|sk 7 z z z z z<|sk 8 z z z z z<|sk 9 z z z z z<|sk 10 z z z z z<|sk 11 z z z z z<|sk 12 z z z z z<|tq 13 z z z z<|dn<|nS<|⟨false,Ab hr2,z,(Ao hB3).below,hC3⟩
   rintro _ w2 ⟨x2,rfl,rfl,hB2,hC2⟩
   refine wc hL1 z (fun hL1=>?_) fun hL1=>?_
   ·refine Ac<|Af z z<|Aa<|AF<|AT<|Ax<|Ax<|AT<|Ax<|Ax<|?_
    obtain rfl:=Ab hL1
    dsimp only at hF
    exact rB hF z z hC2
   exact A5<|AN<|Am<|AL<|AW z z z<|Ae z z<|Aa<|nS<|⟨k1,Aw _,w64 (x1+1),z,((Ao hB1).then hB2).below,hC2,hL1⟩
  refine Bi (A2 (A2 (AM ?_)))
  exact nS<|⟨Ab hL1,z,(Ao hB1).below,hC1⟩
 rintro _ w6 ⟨rfl,rfl,hB6,hC5⟩
 try dsimp only at hF
 exact Ac<|Af z z<|Aa<|AF<|rB hF z z hC5
theorem c_M_Method_fits_c1 {w0:World} (a1:Int) (pb1:Nat) (ax1:Int) (g1:ROAt [] w0 pb1 0 ax1) (rr:Bool) (hF:M.Method_fits_c1 a1 ax1=some rr) :
 Calls Tryz.prog 199 [(I a1),(ptr pb1 0)].toArray w0 fun e w'=>∃v,e=.returned v∧Res w0 rr v w':=by
 refine Av Tryz.func199 z z ?_
 have hC0:=A3 w0
 unfold M.Method_fits_c1 at hF
 refine Ac<|Af z z<|Aa<|Ac<|Ae z z<|AD ty3 g1 hC0.keep z z fun v1 h1=>?_
 obtain rfl:=Bo h1
 exact Cb z z z<|be hF fun x1 hr1 hF=>cb BV z z (c_M_within a1 0 (w64 (ax1 - 1)) x1 hr1) fun w1 hB1=>have hC1:=hC0.grow hB1;Bv z z<|Af z z<|Aa<|AF<|rB hF z z hC1
theorem c_M_isCost {w0:World} (a1:Int) (rr:Bool) (hF:M.isCost a1=some rr) :
 Calls Tryz.prog 200 [(I a1)].toArray w0 fun e w'=>∃v,e=.returned v∧Res w0 rr v w':=by
 refine Av Tryz.func200 z z ?_
 have hC0:=A3 w0
 unfold M.isCost at hF
 exact Ac<|Af z z<|Aa<|Ac<|Ae z z<|be hF fun x1 hr1 hF=>cb BV z z (c_M_within a1 0 99 x1 hr1) fun w1 hB1=>have hC1:=hC0.grow hB1;Af z z<|Aa<|AF<|rB hF z z hC1
theorem c_Slices_IndexFunc_Lint_int_M_Method_fits_c1 {w0:World} (a1:Ta) (u1:Value) (g1:RO [] w0 u1 a1) (pb1:Nat) (ax1:Int) (g2:ROAt [] w0 pb1 0 ax1) (rr:Int) (hF:Slices.IndexFunc_Lint_int_M_Method_fits_c1 a1 ax1=some rr) :
 Calls Tryz.prog 197 [u1,(.func (.func 199) #[] #[(ptr pb1 0)])].toArray w0 fun e w'=>∃v,e=.returned v∧Res w0 rr v w':=by
 refine Av CA z z ?_
 have hC0:=A3 w0
 unfold Slices.IndexFunc_Lint_int_M_Method_fits_c1 at hF
 refine Ac<|Af z z<|Aa<|A0<|Ac<|Ae z z<|AH Ag g1 z z<|Ae z z<|Aa<|be hF fun r1 hr1 hF=>wN (fun l w=>.inl ()=r1∧l=[]∧Below w0.heap.size w0 w∧Ctx [] w0 w []) ?_ ?_
 ·refine A4<|wT<|Bj (fun k l w=>∃x1:Int,l=[(0,u1),(1,(.func (.func 199) #[] #[(ptr pb1 0)])),(7,(I (List.length a1:Int))),(8,(I x1))]∧Below w0.heap.size w0 w∧Ctx [] w0 w []∧Slices.IndexFunc_Lint_int_M_Method_fits_c1_l1 a1 ax1 k x1=some r1) FUEL ⟨0,z,(Aj _ _),hC0,hr1⟩<|?_
  clear hr1
  rintro k1 _ w1 ⟨x1,rfl,hB1,hC1,hL1⟩
  obtain _|k1:=k1<;>rw [Slices.IndexFunc_Lint_int_M_Method_fits_c1_l1] at hL1
  ·cases hL1
  refine Ac<|AZ z z z<|Aa<|A0<|wc hL1 z (fun hL1=>?_) fun hL1=>?_
  ·refine A5<|Am<|A0<|A4<|Ac<|Ae z z<|Af z z<|Aa<|Ac<|Ae z z<|Ae z z<|Ae z z<|be hL1 fun x2 hx1 hL1=>A9 Ag ty3 g1 hx1 z z z fun b1 o1 h1=>AD ty3 h1 hC1.keep z z fun v1 h2=>?_
   obtain rfl:=Bo h2
   refine be hL1 fun x3 hr2 hL1=>BL (cap:=[(ptr pb1 0)]) Tryz.call199 z z z (c_M_Method_fits_c1 x2 pb1 ax1 (g2.now hC1.keep) x3 hr2) fun _ w2 hv1=>?_
   obtain ⟨rfl,hB2⟩:=BM hv1
   have hC2:=hC1.grow hB2
   refine Aa<|wc hL1 z (fun hL1=>?_) fun hL1=>?_
   ·refine Ac<|Ae z z<|Af z z<|Aa<|AF<|AT<|Ax<|Ax<|AT<|Ax<|Ax<|?_
    obtain rfl:=Ab hL1
    dsimp only at hF
    exact rI hF z z hC2
   exact A5<|AN<|Am<|AL<|AW z z z<|Ae z z<|Aa<|nS<|⟨k1,Aw _,w64 (x1+1),z,((Ao hB1).then hB2).below,hC2,hL1⟩
  refine Bi (A2 (A2 (AM ?_)))
  exact nS<|⟨Ab hL1,z,(Ao hB1).below,hC1⟩
 rintro _ w3 ⟨rfl,rfl,hB3,hC3⟩
 try dsimp only at hF
 exact Ac<|Af z z<|Aa<|AF<|rI hF z z hC3
theorem c_Slices_ContainsFunc_Lint_int_M_Method_fits_c1 {w0:World} (a1:Ta) (u1:Value) (g1:RO [] w0 u1 a1) (pb1:Nat) (ax1:Int) (g2:ROAt [] w0 pb1 0 ax1) (rr:Bool) (hF:Slices.ContainsFunc_Lint_int_M_Method_fits_c1 a1 ax1=some rr) :
 Calls Tryz.prog 153 [u1,(.func (.func 199) #[] #[(ptr pb1 0)])].toArray w0 fun e w'=>∃v,e=.returned v∧Res w0 rr v w':=by
 refine Av CB z z ?_
 have hC0:=A3 w0
 unfold Slices.ContainsFunc_Lint_int_M_Method_fits_c1 at hF
 exact Ac<|Af z z<|Aa<|Ac<|Ae z z<|Ae z z<|be hF fun x1 hr1 hF=>ci CC z z (c_Slices_IndexFunc_Lint_int_M_Method_fits_c1 a1 u1 (g1.now hC0.keep) pb1 ax1 (g2.now hC0.keep) x1 hr1) fun w1 hB1=>have hC1:=hC0.grow hB1;Cr z z z<|Af z z<|Aa<|AF<|rB hF z z hC1
theorem c_M_Method_fits {w0:World} (a1:Te) (u1:Value) (g1:RO [] w0 u1 a1.2.1) (a2:Int) (rr:Bool) (hF:M.Method_fits a1 a2=some rr) :
 Calls Tryz.prog 157 [(.agg #[(I a1.1),u1,(I a1.2.2.1),(I a1.2.2.2.1),(I a1.2.2.2.2)]),(I a2)].toArray w0 fun e w'=>∃v,e=.returned v∧Res w0 rr v w':=by
 refine Av Tryz.func157 z z ?_
 have hC0:=A3 w0
 unfold M.Method_fits at hF
 refine Ac<|Be (cs:=[(I a1.1),u1,(I a1.2.2.1),(I a1.2.2.2.1),(I a1.2.2.2.2)]) hC0 z z z fun b1 w1 hC1 hB1 hN1=>Be (cs:=[(I a2)]) hC1 z z z fun b2 w2 hC2 hB2 hN2=>Af z z<|Aa<|be hF fun r1 hr1 hF=>B9 (fun l w=>∃x1:Bool,x1=r1∧l=[(4,(.bool x1))]∧Below w2.heap.size w2 w∧Ctx [] w0 w []) ?_ ?_
 ·refine AL<|fd AI Aq z z z z<|Al hC2 1 z z Au z z<|be hr1 fun x2 hr2 hr1=>cb Tryz.call198 z z (c_M_ascending a1.2.1 u1 (g1.now hC2.keep) x2 hr2) fun w4 hB4=>have hC4:=hC2.grow hB4;Ae z z<|wk hr1 (fun hr1=>?_) fun hr1=>?_
  ·refine Ai z z<|fd AI Aq z z z z<|Ai z z<|Al hC4 1 z z Au z z<|Ai z z<|BP z z<|be hr1 fun x3 hr3 hr1=>Ai z z<|cb CD z z (c_Slices_ContainsFunc_Lint_int_M_Method_fits_c1 a1.2.1 u1 (g1.now hC4.keep) b2 a2 (hC4.boxAt 0 z repw_int) x3 hr3) fun w5 hB5=>have hC5:=hC4.grow hB5;Ai z z<|Bv z z<|AJ z z z<|Ae z z<|wk hr1 (fun hr1=>?_) fun hr1=>?_
   ·refine Ai z z<|fd AI A7 z z z z<|Ai z z<|Al hC5 1 z z AU z z<|be hr1 fun x4 hr4 hr1=>Ai z z<|cb BV z z (c_M_within a1.2.2.1 0 9 x4 hr4) fun w6 hB6=>have hC6:=hC5.grow hB6;AJ z z z<|Ae z z<|wk hr1 (fun hr1=>?_) fun hr1=>?_
    ·refine Ai z z<|fd AI A7 z z z z<|Ai z z<|Al hC6 1 z z AU z z<|be hr1 fun x5 hr5 hr1=>Ai z z<|cb Tryz.call200 z z (c_M_isCost a1.2.2.2.1 x5 hr5) fun w7 hB7=>have hC7:=hC6.grow hB7;AJ z z z<|Ae z z<|wk hr1 (fun hr1=>?_) fun hr1=>?_
     ·refine Ai z z<|fd AI A7 z z z z<|Ai z z<|Al hC7 1 z z AU z z<|be hr1 fun x6 hr6 hr1=>Ai z z<|cb BV z z (c_M_within a1.2.2.2.2 1 99 x6 hr6) fun w9 hB8=>have hC8:=hC7.grow hB8;AJ z z z<|Af z z<|Aa<|?_
      have hC9:=hC8.h0
      exact nS<|⟨x6,Ab hr1,z,(((((Ao hB4).then hB5).then hB6).then hB7).then hB8).below,hC9⟩
     refine gs z z z z<|gs z z z z<|gs z z z z<|AK z z z<|Af z z<|Aa<|?_
     have hC10:=hC7.h0
     exact nS<|⟨false,Ab hr1,z,((((Ao hB4).then hB5).then hB6).then hB7).below,hC10⟩
    refine gs z z z z<|gs z z z z<|gs z z z z<|AK z z z<|Ae z z<|gs z z z z<|gs z z z z<|gs z z z z<|AK z z z<|Af z z<|Aa<|?_
    have hC11:=hC6.h0
    exact nS<|⟨false,Ab hr1,z,(((Ao hB4).then hB5).then hB6).below,hC11⟩
   refine gs z z z z<|gs z z z z<|gs z z z z<|AK z z z<|Ae z z<|gs z z z z<|gs z z z z<|gs z z z z<|AK z z z<|Ae z z<|gs z z z z<|gs z z z z<|gs z z z z<|AK z z z<|Af z z<|Aa<|?_
   have hC12:=hC5.h0
   exact nS<|⟨false,Ab hr1,z,((Ao hB4).then hB5).below,hC12⟩
  refine gs z z z z<|gs z z z z<|gs z z z z<|gs z z z z<|gs z z z z<|AK z z z<|Ae z z<|gs z z z z<|gs z z z z<|gs z z z z<|AK z z z<|Ae z z<|gs z z z z<|gs z z z z<|gs z z z z<|AK z z z<|Ae z z<|gs z z z z<|gs z z z z<|gs z z z z<|AK z z z<|Af z z<|Aa<|?_
  have hC13:=hC4.h0
  exact nS<|⟨false,Ab hr1,z,(Ao hB4).below,hC13⟩
 rintro _ w3 ⟨x1,rfl,rfl,hB3,hC3⟩
 exact AF<|rB hF z z hC3
theorem c_M_IsMethod {w0:World} (a1:Ta) (u1:Value) (g1:RO [] w0 u1 a1) (a2:Te) (u2:Value) (g2:RO [] w0 u2 a2.2.1) (rr:Bool) (hF:M.IsMethod a1 a2=some rr) :
 Calls Tryz.prog 101 [u1,(.agg #[(I a2.1),u2,(I a2.2.2.1),(I a2.2.2.2.1),(I a2.2.2.2.2)])].toArray w0 fun e w'=>∃v,e=.returned v∧Res w0 rr v w':=by
 refine Av Tryz.func101 z z ?_
 have hC0:=A3 w0
 unfold M.IsMethod at hF
 refine Ac<|Be (cs:=[(I a2.1),u2,(I a2.2.2.1),(I a2.2.2.2.1),(I a2.2.2.2.2)]) hC0 z z z fun b1 w1 hC1 hB1 hN1=>Af z z<|Aa<|be hF fun r1 hr1 hF=>B9 (fun l w=>∃x1:Bool,x1=r1∧l=[(4,(.bool x1))]∧Below w1.heap.size w1 w∧Ctx [] w0 w []) ?_ ?_
 ·refine W_drawn 14 z hmix fun w3 hB3=>have hC3:=hC1.grow hB3;tm 0 z z z<|tf 1 AI A7 z z z z z<|oe 2 z<|Al hC3 0 z z AU z z<|Aa<|be hr1 fun x2 hr2 hr1=>oe 3 z<|cb Tryz.call156 z z (c_M_hasRel a1 u1 (g1.now hC3.keep) a2.1 x2 hr2) fun w4 hB4=>have hC4:=hC3.grow hB4;Aa<|tm 4 z z z<|BJ (fun hc1=>?_) (fun hc1=>?_)
  ·replace hr1:=Cm hr1 hc1
   refine tn 6 z z z z z<|tg 7 z z z z (BC AI z z (fun w=>⟨_,A7 w⟩) z)<|Ai z z<|fd AI A7 z z z z<|Aa<|be hr1 fun x3 hx1 hr1=>wAS (l':=[(0,u1),(1,(.agg #[(I a2.1),u2,(I a2.2.2.1),(I a2.2.2.2.1),(I a2.2.2.2.2)])),(3,(ptr b1 0)),(4,(.bool false)),(5,u1),(6,(ptr b1 0)),(7,(I a2.1)),(8,(.bool x2)),(9,(.bool true)),(11,u1),(12,(ptr b1 0))]) ⟨z,z,z,z,z,z,z,z,z,z,z,A6⟩<|Bg [⟨5,[],fun vs=>AQ (.agg #[(I a2.1),u2,(I a2.2.2.1),(I a2.2.2.2.1),(I a2.2.2.2.2)]),[]⟩,⟨8,[],fun vs=>AQ (I a2.1),[]⟩,⟨9,[],fun vs=>Cd [] w0 x3,[]⟩,⟨10,[],fun vs=>AQ (I x3),[]⟩] [[],[],[8],[9]] 3 z (by kernel_rfl) (by kernel_rfl) z ?_ ?_
   ·refine An z ?_ ?_
    ·intro w5 hB5
     refine At<|⟨_,z,?_⟩
     exact Ai z z<|Az [(I a2.1),u2,(I a2.2.2.1),(I a2.2.2.2.1),(I a2.2.2.2.2)] (hC4.grow hB5) 0 z z z BU B6 z z<|Aa<|A1 (Aj _ _) z z ⟨z,z⟩
    refine An z ?_ ?_
    ·intro w5 hB5
     refine At<|⟨_,z,?_⟩
     exact Ai z z<|Al (hC4.grow hB5) 0 z z AU z z<|Aa<|A1 (Aj _ _) z z ⟨z,z⟩
    refine An z ?_ ?_
    ·intro w5 hB5
     refine AG z z z ?_
     rintro _ _ ⟨rfl,rfl⟩ _
     refine At<|⟨_,z,?_⟩
     exact Ai z z<|A9 Ag ty3 g1 hx1 z z z fun b2 o1 h1=>Aa<|A1 (Aj _ _) z z ⟨z,_,_,z,h1⟩
    refine An z ?_ ?_
    ·intro w5 hB5
     refine AG z z z ?_
     rintro _ _ ⟨rfl,b2,o1,rfl,h1⟩ _
     refine At<|⟨_,z,?_⟩
     refine Ai z z<|AD ty3 h1 (hC4.keep.then hB5) z z fun v1 h2=>?_
     obtain rfl:=Bo h2
     exact Aa<|A1 (Aj _ _) z z ⟨z,z⟩
    exact AX
   intro w6 hB6
   refine Ap z z z ?_
   rintro _ _ ⟨rfl,rfl⟩
   refine Ap z z z ?_
   rintro _ _ ⟨rfl,rfl⟩
   refine Ap z z z ?_
   rintro _ _ ⟨rfl,b2,o1,rfl,h1⟩
   refine Ap z z z ?_
   rintro _ _ ⟨rfl,rfl⟩
   refine Bm fun hn1 hb1=>have hC5:=hC4.grow hB6;be hr1 fun x4 hr3 hr1=>oe 11 z<|Ai z z<|cb Tryz.call157 z z (c_M_Method_fits (a2.1,a2.2.1,a2.2.2.1,a2.2.2.2.1,a2.2.2.2.2) u2 (g2.now hC5.keep) x3 x4 hr3) fun w7 hB7=>have hC6:=hC5.grow hB7;Aa<|tp 12 z z z z<|ta 13 z z z<|dn<|?_
   have hC7:=hC6.h0
   exact nS<|⟨x4,Ab hr1,z,((((Ao hB3).then hB4).then hB6).then hB7).below,hC7⟩
  replace hr1:=Cn hr1 hc1
  refine sk 5 z z z z z<|sk 6 z z z z z<|sk 7 z z z z z<|sk 8 z z z z z<|sk 9 z z z z z<|sk 10 z z z z z<|sk 11 z z z z z<|tq 12 z z z z<|ta 13 z z z<|dn<|?_
  have hC8:=hC4.h0
  exact nS<|⟨false,Ab hr1,z,((Ao hB3).then hB4).below,hC8⟩
 rintro _ w2 ⟨x1,rfl,rfl,hB2,hC2⟩
 exact AF<|rB hF z z hC2
theorem c_M_AreMethods_c1 {w0:World} (a1:Te) (u1:Value) (g1:RO [] w0 u1 a1.2.1) (pb1:Nat) (ax1:Ta) (g2:ROAt [] w0 pb1 0 ax1) (rr:Bool) (hF:M.AreMethods_c1 a1 ax1=some rr) :
 Calls Tryz.prog 100 [(.agg #[(I a1.1),u1,(I a1.2.2.1),(I a1.2.2.2.1),(I a1.2.2.2.2)]),(ptr pb1 0)].toArray w0 fun e w'=>∃v,e=.returned v∧Res w0 rr v w':=by
 refine Av Tryz.func100 z z ?_
 have hC0:=A3 w0
 unfold M.AreMethods_c1 at hF
 exact Ac<|Be (cs:=[(I a1.1),u1,(I a1.2.2.1),(I a1.2.2.2.1),(I a1.2.2.2.2)]) hC0 z z z fun b1 w1 hC1 hB1 hN1=>Af z z<|Aa<|Ac<|AD ty24 g2 hC1.keep z z fun v1 h1=>Az [(I a1.1),u1,(I a1.2.2.1),(I a1.2.2.2.1),(I a1.2.2.2.2)] hC1 0 z z z BU B6 z z<|be hF fun x1 hr1 hF=>cb Tryz.call101 z z (c_M_IsMethod ax1 v1 (h1.now hC1.keep) (a1.1,a1.2.1,a1.2.2.1,a1.2.2.2.1,a1.2.2.2.2) u1 (g1.now hC1.keep) x1 hr1) fun w2 hB2=>have hC2:=hC1.grow hB2;Bv z z<|Af z z<|Aa<|AF<|rB hF z z hC2
theorem c_Slices_IndexFunc_Limpl_Method_impl_Method_M_AreMethods_c1 {w0:World} (a1:Tf) (u1:Value) (g1:RO [] w0 u1 a1) (pb1:Nat) (ax1:Ta) (g2:ROAt [] w0 pb1 0 ax1) (rr:Int) (hF:Slices.IndexFunc_Limpl_Method_impl_Method_M_AreMethods_c1 a1 ax1=some rr) :
 Calls Tryz.prog 155 [u1,(.func (.func 100) #[] #[(ptr pb1 0)])].toArray w0 fun e w'=>∃v,e=.returned v∧Res w0 rr v w':=by
 refine Av Tryz.func155 z z ?_
 have hC0:=A3 w0
 unfold Slices.IndexFunc_Limpl_Method_impl_Method_M_AreMethods_c1 at hF
 refine Ac<|Af z z<|Aa<|A0<|Ac<|Ae z z<|AH Bh g1 z z<|Ae z z<|Aa<|be hF fun r1 hr1 hF=>wN (fun l w=>.inl ()=r1∧l=[]∧Below w0.heap.size w0 w∧Ctx [] w0 w []) ?_ ?_
 ·refine A4<|wT<|Bj (fun k l w=>∃x1:Int,l=[(0,u1),(1,(.func (.func 100) #[] #[(ptr pb1 0)])),(7,(I (List.length a1:Int))),(8,(I x1))]∧Below w0.heap.size w0 w∧Ctx [] w0 w []∧Slices.IndexFunc_Limpl_Method_impl_Method_M_AreMethods_c1_l1 a1 ax1 k x1=some r1) FUEL ⟨0,z,(Aj _ _),hC0,hr1⟩<|?_
  clear hr1
  rintro k1 _ w1 ⟨x1,rfl,hB1,hC1,hL1⟩
  obtain _|k1:=k1<;>rw [Slices.IndexFunc_Limpl_Method_impl_Method_M_AreMethods_c1_l1] at hL1
  ·cases hL1
  refine Ac<|AZ z z z<|Aa<|A0<|wc hL1 z (fun hL1=>?_) fun hL1=>?_
  ·refine A5<|Am<|A0<|A4<|Ac<|Ae z z<|Af z z<|Aa<|Ac<|Ae z z<|Ae z z<|Ae z z<|be hL1 fun x2 hx1 hL1=>A9 Bh ty110 g1 hx1 z z z fun b1 o1 h1=>AD ty110 h1 hC1.keep z z fun v1 h2=>?_
   obtain ⟨v2,rfl,h3⟩:=CW h2
   refine be hL1 fun x3 hr2 hL1=>BL (cap:=[(ptr pb1 0)]) Tryz.call100 z z z (c_M_AreMethods_c1 x2 v2 (h3.now hC1.keep) pb1 ax1 (g2.now hC1.keep) x3 hr2) fun _ w2 hv1=>?_
   obtain ⟨rfl,hB2⟩:=BM hv1
   have hC2:=hC1.grow hB2
   refine Aa<|wc hL1 z (fun hL1=>?_) fun hL1=>?_
   ·refine Ac<|Ae z z<|Af z z<|Aa<|AF<|AT<|Ax<|Ax<|AT<|Ax<|Ax<|?_
    obtain rfl:=Ab hL1
    dsimp only at hF
    exact rI hF z z hC2
   exact A5<|AN<|Am<|AL<|AW z z z<|Ae z z<|Aa<|nS<|⟨k1,Aw _,w64 (x1+1),z,((Ao hB1).then hB2).below,hC2,hL1⟩
  refine Bi (A2 (A2 (AM ?_)))
  exact nS<|⟨Ab hL1,z,(Ao hB1).below,hC1⟩
 rintro _ w3 ⟨rfl,rfl,hB3,hC3⟩
 try dsimp only at hF
 exact Ac<|Af z z<|Aa<|AF<|rI hF z z hC3
theorem c_Slices_ContainsFunc_Limpl_Method_impl_Method_M_AreMethods_c1 {w0:World} (a1:Tf) (u1:Value) (g1:RO [] w0 u1 a1) (pb1:Nat) (ax1:Ta) (g2:ROAt [] w0 pb1 0 ax1) (rr:Bool) (hF:Slices.ContainsFunc_Limpl_Method_impl_Method_M_AreMethods_c1 a1 ax1=some rr) :
 Calls Tryz.prog 99 [u1,(.func (.func 100) #[] #[(ptr pb1 0)])].toArray w0 fun e w'=>∃v,e=.returned v∧Res w0 rr v w':=by
 refine Av Tryz.func99 z z ?_
 have hC0:=A3 w0
 unfold Slices.ContainsFunc_Limpl_Method_impl_Method_M_AreMethods_c1 at hF
 exact Ac<|Af z z<|Aa<|Ac<|Ae z z<|Ae z z<|be hF fun x1 hr1 hF=>ci Tryz.call155 z z (c_Slices_IndexFunc_Limpl_Method_impl_Method_M_AreMethods_c1 a1 u1 (g1.now hC0.keep) pb1 ax1 (g2.now hC0.keep) x1 hr1) fun w1 hB1=>have hC1:=hC0.grow hB1;Cr z z z<|Af z z<|Aa<|AF<|rB hF z z hC1
theorem c_M_AreMethods {w0:World} (a1:Ta) (u1:Value) (g1:RO [] w0 u1 a1) (a2:Tf) (u2:Value) (g2:RO [] w0 u2 a2) (rr:Bool) (hF:M.AreMethods a1 a2=some rr) :
 Calls Tryz.prog 56 [u1,u2].toArray w0 fun e w'=>∃v,e=.returned v∧Res w0 rr v w':=by
 refine Av Tryz.func56 z z ?_
 have hC0:=A3 w0
 unfold M.AreMethods at hF
 refine Ac<|Be (cs:=[u1]) hC0 (ro_cells g1) z z fun b1 w1 hC1 hB1 hN1=>Af z z<|Aa<|be hF fun r1 hr1 hF=>B9 (fun l w=>∃x1:Bool,x1=r1∧l=[(4,(.bool x1))]∧Below w1.heap.size w1 w∧Ctx [] w0 w []) ?_ ?_
 ·refine AL<|Al hC1 0 z z Au z z<|be hr1 fun x2 hr2 hr1=>cb CY z z (c_M_IsSchema a1 u1 (g1.now hC1.keep) x2 hr2) fun w3 hB3=>have hC3:=hC1.grow hB3;Ae z z<|wk hr1 (fun hr1=>?_) fun hr1=>?_
  ·refine Ai z z<|Ae z z<|Ai z z<|AH Bh g2 z z<|Ai z z<|Cv z z z<|AJ z z z<|Ae z z<|wk hr1 (fun hr1=>?_) fun hr1=>?_
   ·refine Ai z z<|Ae z z<|Ai z z<|BP z z<|be hr1 fun x3 hr3 hr1=>Ai z z<|cb Tryz.call99 z z (c_Slices_ContainsFunc_Limpl_Method_impl_Method_M_AreMethods_c1 a2 u2 (g2.now hC3.keep) b1 a1 (hC3.boxAt 0 z (repw_slice (g1.now hC3.keep))) x3 hr3) fun w4 hB4=>have hC4:=hC3.grow hB4;Ai z z<|Bv z z<|AJ z z z<|Af z z<|Aa<|?_
    have hC5:=hC4.h0
    exact nS<|⟨(!x3),Ab hr1,z,((Ao hB3).then hB4).below,hC5⟩
   refine gs z z z z<|gs z z z z<|gs z z z z<|gs z z z z<|AK z z z<|Af z z<|Aa<|?_
   have hC6:=hC3.h0
   exact nS<|⟨false,Ab hr1,z,(Ao hB3).below,hC6⟩
  refine gs z z z z<|gs z z z z<|gs z z z z<|AK z z z<|Ae z z<|gs z z z z<|gs z z z z<|gs z z z z<|gs z z z z<|AK z z z<|Af z z<|Aa<|?_
  have hC7:=hC3.h0
  exact nS<|⟨false,Ab hr1,z,(Ao hB3).below,hC7⟩
 rintro _ w2 ⟨x1,rfl,rfl,hB2,hC2⟩
 exact AF<|rB hF z z hC2
theorem c_M_isValue {w0:World} (a1:Int) (rr:Bool) (hF:M.isValue a1=some rr) :
 Calls Tryz.prog 222 [(I a1)].toArray w0 fun e w'=>∃v,e=.returned v∧Res w0 rr v w':=by
 refine Av Tryz.func222 z z ?_
 have hC0:=A3 w0
 unfold M.isValue at hF
 exact Ac<|Af z z<|Aa<|Ac<|Ae z z<|be hF fun x1 hr1 hF=>cb BV z z (c_M_within a1 0 9 x1 hr1) fun w1 hB1=>have hC1:=hC0.grow hB1;Af z z<|Aa<|AF<|rB hF z z hC1
theorem c_M_areValues_c1 {w0:World} (a1:Int) (rr:Bool) (hF:M.areValues_c1 a1=some rr) :
 Calls Tryz.prog 229 [(I a1)].toArray w0 fun e w'=>∃v,e=.returned v∧Res w0 rr v w':=by
 refine Av Tryz.func229 z z ?_
 have hC0:=A3 w0
 unfold M.areValues_c1 at hF
 exact Ac<|Af z z<|Aa<|Ac<|Ae z z<|be hF fun x1 hr1 hF=>cb Tryz.call222 z z (c_M_isValue a1 x1 hr1) fun w1 hB1=>have hC1:=hC0.grow hB1;Bv z z<|Af z z<|Aa<|AF<|rB hF z z hC1
theorem c_Slices_IndexFunc_Lint_int_M_areValues_c1 {w0:World} (a1:Ta) (u1:Value) (g1:RO [] w0 u1 a1) (rr:Int) (hF:Slices.IndexFunc_Lint_int_M_areValues_c1 a1=some rr) :
 Calls Tryz.prog 197 [u1,(.func (.func 229) #[] #[])].toArray w0 fun e w'=>∃v,e=.returned v∧Res w0 rr v w':=by
 refine Av CA z z ?_
 have hC0:=A3 w0
 unfold Slices.IndexFunc_Lint_int_M_areValues_c1 at hF
 refine Ac<|Af z z<|Aa<|A0<|Ac<|Ae z z<|AH Ag g1 z z<|Ae z z<|Aa<|be hF fun r1 hr1 hF=>wN (fun l w=>.inl ()=r1∧l=[]∧Below w0.heap.size w0 w∧Ctx [] w0 w []) ?_ ?_
 ·refine A4<|wT<|Bj (fun k l w=>∃x1:Int,l=[(0,u1),(1,(.func (.func 229) #[] #[])),(7,(I (List.length a1:Int))),(8,(I x1))]∧Below w0.heap.size w0 w∧Ctx [] w0 w []∧Slices.IndexFunc_Lint_int_M_areValues_c1_l1 a1 k x1=some r1) FUEL ⟨0,z,(Aj _ _),hC0,hr1⟩<|?_
  clear hr1
  rintro k1 _ w1 ⟨x1,rfl,hB1,hC1,hL1⟩
  obtain _|k1:=k1<;>rw [Slices.IndexFunc_Lint_int_M_areValues_c1_l1] at hL1
  ·cases hL1
  refine Ac<|AZ z z z<|Aa<|A0<|wc hL1 z (fun hL1=>?_) fun hL1=>?_
  ·refine A5<|Am<|A0<|A4<|Ac<|Ae z z<|Af z z<|Aa<|Ac<|Ae z z<|Ae z z<|Ae z z<|be hL1 fun x2 hx1 hL1=>A9 Ag ty3 g1 hx1 z z z fun b1 o1 h1=>AD ty3 h1 hC1.keep z z fun v1 h2=>?_
   obtain rfl:=Bo h2
   refine be hL1 fun x3 hr2 hL1=>BL (cap:=[]) Tryz.call229 z z z (c_M_areValues_c1 x2 x3 hr2) fun _ w2 hv1=>?_
   obtain ⟨rfl,hB2⟩:=BM hv1
   have hC2:=hC1.grow hB2
   refine Aa<|wc hL1 z (fun hL1=>?_) fun hL1=>?_
   ·refine Ac<|Ae z z<|Af z z<|Aa<|AF<|AT<|Ax<|Ax<|AT<|Ax<|Ax<|?_
    obtain rfl:=Ab hL1
    dsimp only at hF
    exact rI hF z z hC2
   exact A5<|AN<|Am<|AL<|AW z z z<|Ae z z<|Aa<|nS<|⟨k1,Aw _,w64 (x1+1),z,((Ao hB1).then hB2).below,hC2,hL1⟩
  refine Bi (A2 (A2 (AM ?_)))
  exact nS<|⟨Ab hL1,z,(Ao hB1).below,hC1⟩
 rintro _ w3 ⟨rfl,rfl,hB3,hC3⟩
 try dsimp only at hF
 exact Ac<|Af z z<|Aa<|AF<|rI hF z z hC3
theorem c_Slices_ContainsFunc_Lint_int_M_areValues_c1 {w0:World} (a1:Ta) (u1:Value) (g1:RO [] w0 u1 a1) (rr:Bool) (hF:Slices.ContainsFunc_Lint_int_M_areValues_c1 a1=some rr) :
 Calls Tryz.prog 153 [u1,(.func (.func 229) #[] #[])].toArray w0 fun e w'=>∃v,e=.returned v∧Res w0 rr v w':=by
 refine Av CB z z ?_
 have hC0:=A3 w0
 unfold Slices.ContainsFunc_Lint_int_M_areValues_c1 at hF
 exact Ac<|Af z z<|Aa<|Ac<|Ae z z<|Ae z z<|be hF fun x1 hr1 hF=>ci CC z z (c_Slices_IndexFunc_Lint_int_M_areValues_c1 a1 u1 (g1.now hC0.keep) x1 hr1) fun w1 hB1=>have hC1:=hC0.grow hB1;Cr z z z<|Af z z<|Aa<|AF<|rB hF z z hC1
theorem c_M_areValues {w0:World} (a1:Ta) (u1:Value) (g1:RO [] w0 u1 a1) (rr:Bool) (hF:M.areValues a1=some rr) :
 Calls Tryz.prog 219 [u1].toArray w0 fun e w'=>∃v,e=.returned v∧Res w0 rr v w':=by
 refine Av Tryz.func219 z z ?_
 have hC0:=A3 w0
 unfold M.areValues at hF
 exact Ac<|Af z z<|Aa<|Ac<|Ae z z<|be hF fun x1 hr1 hF=>cb CD z z (c_Slices_ContainsFunc_Lint_int_M_areValues_c1 a1 u1 (g1.now hC0.keep) x1 hr1) fun w1 hB1=>have hC1:=hC0.grow hB1;Bv z z<|Af z z<|Aa<|AF<|rB hF z z hC1
theorem c_M_IsAccess {w0:World} (a1:Ta) (u1:Value) (g1:RO [] w0 u1 a1) (a2:Tf) (u2:Value) (g2:RO [] w0 u2 a2) (a3:Tb) (u3:Value) (g3:RO [] w0 u3 a3.2) (rr:Bool) (hF:M.IsAccess a1 a2 a3=some rr) :
 Calls Tryz.prog 193 [u1,u2,(.agg #[(I a3.1),u3])].toArray w0 fun e w'=>∃v,e=.returned v∧Res w0 rr v w':=by
 refine Av Tryz.func193 z z ?_
 have hC0:=A3 w0
 unfold M.IsAccess at hF
 refine Ac<|Be (cs:=[(I a3.1),u3]) hC0 z z z fun b1 w1 hC1 hB1 hN1=>Af z z<|Aa<|be hF fun r1 hr1 hF=>B9 (fun l w=>∃x1:Bool,x1=r1∧l=[(6,(.bool x1))]∧Below w1.heap.size w1 w∧Ctx [] w0 w []) ?_ ?_
 ·refine W_drawn 30 z hmix fun w3 hB3=>have hC3:=hC1.grow hB3;tm 0 z z z<|tm 1 z z z<|be hr1 fun x2 hr2 hr1=>oe 2 z<|cb Tryz.call56 z z (c_M_AreMethods a1 u1 (g1.now hC3.keep) a2 u2 (g2.now hC3.keep) x2 hr2) fun w4 hB4=>have hC4:=hC3.grow hB4;Aa<|tm 3 z z z<|BJ (fun hc1=>?_) (fun hc1=>?_)
  ·replace hr1:=Cm hr1 hc1
   refine tg 4 z z z z (BC AO z z (fun w=>⟨_,A7 w⟩) z)<|Ai z z<|fd AO A7 z z z z<|Aa<|tn 6 z z z z z<|tg 7 z z z z (fl_len Bh g2 z)<|Ai z z<|AH Bh g2 z z<|Aa<|tg 8 z z z z (CO z z)<|Ai z z<|Cb z z z<|Aa<|oe 5 z<|Ai z z<|Al hC4 0 z z AU z z<|Aa<|be hr1 fun x3 hr3 hr1=>oe 9 z<|Ai z z<|cb BV z z (c_M_within a3.1 0 (w64 ((List.length a2:Int) - 1)) x3 hr3) fun w5 hB5=>have hC5:=hC4.grow hB5;Aa<|tp 10 z z z z<|tm 11 z z z<|BJ (fun hc2=>?_) (fun hc2=>?_)
   ·replace hr1:=Cm hr1 hc2
    refine tg 12 z z z z (BC AO z z (fun w=>⟨_,Aq w⟩) z)<|Ai z z<|fd AO Aq z z z z<|Aa<|tn 15 z z z z z<|tg 16 z z z z (BC AO z z (fun w=>⟨_,A7 w⟩) z)<|Ai z z<|fd AO A7 z z z z<|Aa<|be hr1 fun x4 hx1 hr1=>wAS (l':=[(0,u1),(1,u2),(2,(.agg #[(I a3.1),u3])),(5,(ptr b1 0)),(6,(.bool false)),(7,u1),(8,u2),(9,(.bool x2)),(10,(.bool true)),(11,(ptr b1 0)),(12,(I a3.1)),(13,u2),(14,(I (List.length a2:Int))),(15,(I (w64 ((List.length a2:Int) - 1)))),(16,(.bool x3)),(17,(.bool x3)),(18,(.bool true)),(19,(ptr b1 1)),(22,u2),(23,(ptr b1 0))]) ⟨z,z,z,z,z,z,z,z,z,z,z,z,z,z,z,z,z,z,z,z,A6⟩<|Bg [⟨13,[],fun vs=>AQ u3,[]⟩,⟨14,[],fun vs=>AQ (I (List.length a3.2:Int)),[]⟩,⟨17,[],fun vs=>AQ (I a3.1),[]⟩,⟨18,[],fun vs=>Cd [] w0 x4,[]⟩,⟨19,[],fun vs=>Cd [] w0 x4.2.1,[]⟩,⟨20,[],fun vs=>Cj [] w0 x4.2.1,[]⟩,⟨21,[],fun vs=>AQ (I (List.length x4.2.1:Int)),[]⟩] [[],[13],[],[17],[18],[19],[20]] 8 z (by kernel_rfl) (by kernel_rfl) z ?_ ?_
    ·refine An z ?_ ?_
     ·intro w6 hB6
      refine At<|⟨_,z,?_⟩
      exact Ai z z<|Al (hC5.grow hB6) 0 z z Au z z<|Aa<|A1 (Aj _ _) z z ⟨z,z⟩
     refine An z ?_ ?_
     ·intro w6 hB6
      refine AG z z z ?_
      rintro _ _ ⟨rfl,rfl⟩ _
      refine At<|⟨_,z,?_⟩
      exact Ai z z<|AH Ag g3 z z<|Aa<|A1 (Aj _ _) z z ⟨z,z⟩
     refine An z ?_ ?_
     ·intro w6 hB6
      refine At<|⟨_,z,?_⟩
      exact Ai z z<|Al (hC5.grow hB6) 0 z z AU z z<|Aa<|A1 (Aj _ _) z z ⟨z,z⟩
     refine An z ?_ ?_
     ·intro w6 hB6
      refine AG z z z ?_
      rintro _ _ ⟨rfl,rfl⟩ _
      refine At<|⟨_,z,?_⟩
      exact Ai z z<|A9 Bh ty110 g2 hx1 z z z fun b2 o1 h1=>Aa<|A1 (Aj _ _) z z ⟨z,_,_,z,h1⟩
     refine An z ?_ ?_
     ·intro w6 hB6
      refine AG z z z ?_
      rintro _ _ ⟨rfl,b2,o1,rfl,h1⟩ _
      refine At<|⟨_,z,?_⟩
      exact Ai z z<|fd AI Aq z z z z<|Aa<|A1 (Aj _ _) z z ⟨z,_,_,z,h1.snd.fst⟩
     refine An z ?_ ?_
     ·intro w6 hB6
      refine AG z z z ?_
      rintro _ _ ⟨rfl,b3,o2,rfl,h2⟩ _
      refine At<|⟨_,z,?_⟩
      exact Ai z z<|AD ty24 h2 (hC5.keep.then hB6) z z fun v1 h3=>Aa<|A1 (Aj _ _) z z ⟨z,h3⟩
     refine An z ?_ ?_
     ·intro w6 hB6
      refine AG z z z ?_
      rintro v1 _ ⟨rfl,h3⟩ _
      refine At<|⟨_,z,?_⟩
      exact Ai z z<|AH Ag h3 z z<|Aa<|A1 (Aj _ _) z z ⟨z,z⟩
     exact AX
    intro w7 hB7
    refine Ap z z z ?_
    rintro _ _ ⟨rfl,rfl⟩
    refine Ap z z z ?_
    rintro _ _ ⟨rfl,rfl⟩
    refine Ap z z z ?_
    rintro _ _ ⟨rfl,rfl⟩
    refine Ap z z z ?_
    rintro _ _ ⟨rfl,b2,o1,rfl,h1⟩
    refine Ap z z z ?_
    rintro _ _ ⟨rfl,b3,o2,rfl,h2⟩
    refine Ap z z z ?_
    rintro v1 _ ⟨rfl,h3⟩
    refine Ap z z z ?_
    rintro _ _ ⟨rfl,rfl⟩
    refine Bm fun hn1 hb1=>have hC6:=hC5.grow hB7;tg 22 z z z z (Dl z z)<|Ai z z<|BD z z z<|Aa<|tp 23 z z z z<|tm 24 z z z<|BJ (fun hc3=>?_) (fun hc3=>?_)
    ·replace hr1:=Cm hr1 hc3
     refine tg 25 z z z z (BC AO z z (fun w=>⟨_,Aq w⟩) z)<|Ai z z<|fd AO Aq z z z z<|Aa<|oe 26 z<|Ai z z<|Al hC6 0 z z Au z z<|Aa<|be hr1 fun x5 hr4 hr1=>oe 27 z<|Ai z z<|cb Tryz.call219 z z (c_M_areValues a3.2 u3 (g3.now hC6.keep) x5 hr4) fun w9 hB8=>have hC7:=hC6.grow hB8;Aa<|tp 28 z z z z<|ta 29 z z z<|dn<|?_
     have hC8:=hC7.h0
     exact nS<|⟨x5,Ab hr1,z,(((((Ao hB3).then hB4).then hB5).then hB7).then hB8).below,hC8⟩
    replace hr1:=Cn hr1 hc3
    refine sk 25 z z z z z<|sk 26 z z z z z<|sk 27 z z z z z<|tq 28 z z z z<|ta 29 z z z<|dn<|?_
    have hC9:=hC6.h0
    exact nS<|⟨false,Ab hr1,z,((((Ao hB3).then hB4).then hB5).then hB7).below,hC9⟩
   replace hr1:=Cn hr1 hc2
   refine sk 12 z z z z z<|sk 13 z z z z z<|sk 14 z z z z z<|sk 15 z z z z z<|sk 16 z z z z z<|sk 17 z z z z z<|sk 18 z z z z z<|sk 19 z z z z z<|sk 20 z z z z z<|sk 21 z z z z z<|sk 22 z z z z z<|tq 23 z z z z<|tm 24 z z z<|sk 25 z z z z z<|sk 26 z z z z z<|sk 27 z z z z z<|tq 28 z z z z<|ta 29 z z z<|dn<|?_
   have hC10:=hC5.h0
   exact nS<|⟨false,Ab hr1,z,(((Ao hB3).then hB4).then hB5).below,hC10⟩
  replace hr1:=Cn hr1 hc1
  refine sk 4 z z z z z<|sk 5 z z z z z<|sk 6 z z z z z<|sk 7 z z z z z<|sk 8 z z z z z<|sk 9 z z z z z<|tq 10 z z z z<|tm 11 z z z<|sk 12 z z z z z<|sk 13 z z z z z<|sk 14 z z z z z<|sk 15 z z z z z<|sk 16 z z z z z<|sk 17 z z z z z<|sk 18 z z z z z<|sk 19 z z z z z<|sk 20 z z z z z<|sk 21 z z z z z<|sk 22 z z z z z<|tq 23 z z z z<|tm 24 z z z<|sk 25 z z z z z<|sk 26 z z z z z<|sk 27 z z z z z<|tq 28 z z z z<|ta 29 z z z<|dn<|?_
  have hC11:=hC4.h0
  exact nS<|⟨false,Ab hr1,z,((Ao hB3).then hB4).below,hC11⟩
 rintro _ w2 ⟨x1,rfl,rfl,hB2,hC2⟩
 exact AF<|rB hF z z hC2
theorem c_Cmp_isNaN_int {w0:World} (a1:Int) (rr:Bool) (hF:Cmp.isNaN_int a1=some rr) :
 Calls Tryz.prog 215 [(I a1)].toArray w0 fun e w'=>∃v,e=.returned v∧Res w0 rr v w':=by
 refine Av Tryz.func215 z z ?_
 have hC0:=A3 w0
 unfold Cmp.isNaN_int at hF
 exact Ac<|Af z z<|Aa<|Ac<|Ae z z<|Ae z z<|BQ z z z<|Af z z<|Aa<|AF<|rB hF z z hC0
theorem c_Cmp_Compare_int {w0:World} (a1:Int) (a2:Int) (rr:Int) (hF:Cmp.Compare_int a1 a2=some rr) :
 Calls Tryz.prog 184 [(I a1),(I a2)].toArray w0 fun e w'=>∃v,e=.returned v∧Res w0 rr v w':=by
 refine Av Tryz.func184 z z ?_
 have hC0:=A3 w0
 unfold Cmp.Compare_int at hF
 refine Ac<|Af z z<|Aa<|Ac<|Ae z z<|be hF fun x1 hr1 hF=>cb Tryz.call215 z z (c_Cmp_isNaN_int a1 x1 hr1) fun w1 hB1=>have hC1:=hC0.grow hB1;Af z z<|Aa<|Ac<|Ae z z<|be hF fun x2 hr2 hF=>cb Tryz.call215 z z (c_Cmp_isNaN_int a2 x2 hr2) fun w2 hB2=>have hC2:=hC1.grow hB2;Af z z<|Aa<|A0<|Ac<|Ae z z<|Aa<|wc hF z (fun hF=>?_) fun hF=>?_
 ·refine A0<|Ac<|Ae z z<|Aa<|wc hF z (fun hF=>?_) fun hF=>?_
  ·exact Ac<|Af z z<|Aa<|AF<|Ax<|Ax<|rI hF z z hC2
  exact A5<|Am<|Ac<|Af z z<|Aa<|AF<|Ax<|rI hF z z hC2
 refine A5<|Am<|A0<|Ac<|Ae z z<|Aa<|wc hF z (fun hF=>?_) fun hF=>?_
 ·exact Ac<|Af z z<|Aa<|AF<|Ax<|rI hF z z hC2
 refine A5<|Am<|A0<|Ac<|Ae z z<|Ae z z<|AZ z z z<|Aa<|wc hF z (fun hF=>?_) fun hF=>?_
 ·exact Ac<|Af z z<|Aa<|AF<|Ax<|rI hF z z hC2
 refine A5<|Am<|A0<|Ac<|Ae z z<|Ae z z<|Ck z z z<|Aa<|wc hF z (fun hF=>?_) fun hF=>?_
 ·exact Ac<|Af z z<|Aa<|AF<|Ax<|rI hF z z hC2
 exact A5<|Am<|Ac<|Af z z<|Aa<|AF<|rI hF z z hC2
theorem c_Slices_Compare_Lint_int {w0:World} (a1:Ta) (u1:Value) (g1:RO [] w0 u1 a1) (a2:Ta) (u2:Value) (g2:RO [] w0 u2 a2) (rr:Int) (hF:Slices.Compare_Lint_int a1 a2=some rr) :
 Calls Tryz.prog 138 [u1,u2].toArray w0 fun e w'=>∃v,e=.returned v∧Res w0 rr v w':=by
 refine Av Tryz.func138 z z ?_
 have hC0:=A3 w0
 unfold Slices.Compare_Lint_int at hF
 refine Ac<|Af z z<|Aa<|A0<|Ac<|Ae z z<|AH Ag g1 z z<|Ae z z<|Aa<|be hF fun r1 hr1 hF=>wN (fun l w=>.inl ()=r1∧l=[(0,u1),(1,u2)]∧Below w0.heap.size w0 w∧Ctx [] w0 w []) ?_ ?_
 ·refine A4<|wT<|Bj (fun k l w=>∃x1:Int,l=[(0,u1),(1,u2),(9,u1),(10,(I (List.length a1:Int))),(11,(I x1))]∧Below w0.heap.size w0 w∧Ctx [] w0 w []∧Slices.Compare_Lint_int_l1 a1 a2 k x1=some r1) FUEL ⟨0,z,(Aj _ _),hC0,hr1⟩<|?_
  clear hr1
  rintro k1 _ w1 ⟨x1,rfl,hB1,hC1,hL1⟩
  obtain _|k1:=k1<;>rw [Slices.Compare_Lint_int_l1] at hL1
  ·cases hL1
  refine Ac<|AZ z z z<|Aa<|A0<|wc hL1 z (fun hL1=>?_) fun hL1=>?_
  ·refine A5<|Am<|A0<|A4<|Ac<|Ae z z<|be hL1 fun x2 hx1 hL1=>A9 Ag ty3 g1 hx1 z z z fun b1 o1 h1=>AD ty3 h1 hC1.keep z z fun v1 h2=>?_
   obtain rfl:=Bo h2
   refine Af z z<|Af z z<|Aa<|A0<|Ac<|Ae z z<|Ae z z<|AH Ag g2 z z<|Cr z z z<|Aa<|wc hL1 z (fun hL1=>?_) fun hL1=>?_
   ·refine Ac<|Af z z<|Aa<|AF<|Ax<|AT<|Ax<|Ax<|AT<|Ax<|Ax<|?_
    obtain rfl:=Ab hL1
    dsimp only at hF
    exact rI hF z z hC1
   refine A5<|Am<|Ac<|Ae z z<|Ae z z<|be hL1 fun x3 hx2 hL1=>A9 Ag ty3 g2 hx2 z z z fun b2 o2 h3=>AD ty3 h3 hC1.keep z z fun v2 h4=>?_
   obtain rfl:=Bo h4
   refine Af z z<|Aa<|Ac<|Ae z z<|Ae z z<|be hL1 fun x4 hr2 hL1=>ci Tryz.call184 z z (c_Cmp_Compare_int x2 x3 x4 hr2) fun w2 hB2=>have hC2:=hC1.grow hB2;Af z z<|Aa<|Ac<|Ae z z<|BQ z z z<|Aa<|wc hL1 z (fun hL1=>?_) fun hL1=>?_
   ·refine Ac<|Ae z z<|Af z z<|Aa<|AF<|AT<|Ax<|Ax<|AT<|Ax<|Ax<|?_
    obtain rfl:=Ab hL1
    dsimp only at hF
    exact rI hF z z hC2
   exact A5<|AN<|Am<|AL<|AW z z z<|Ae z z<|Aa<|nS<|⟨k1,Aw _,w64 (x1+1),z,((Ao hB1).then hB2).below,hC2,hL1⟩
  refine Bi (A2 (A2 (AM ?_)))
  exact nS<|⟨Ab hL1,z,(Ao hB1).below,hC1⟩
 rintro _ w3 ⟨rfl,rfl,hB3,hC3⟩
 try dsimp only at hF
 refine A0<|Ac<|Ae z z<|AH Ag g1 z z<|Ae z z<|AH Ag g2 z z<|AZ z z z<|Aa<|wc hF z (fun hF=>?_) fun hF=>?_
 ·exact Ac<|Af z z<|Aa<|AF<|Ax<|rI hF z z hC3
 exact A5<|Am<|Ac<|Af z z<|Aa<|AF<|rI hF z z hC3
theorem c_Cmp_Or_int {w0:World} (a1:Ta) (u1:Value) (g1:RO [] w0 u1 a1) (rr:Int) (hF:Cmp.Or_int a1=some rr) :
 Calls Tryz.prog 192 [u1].toArray w0 fun e w'=>∃v,e=.returned v∧Res w0 rr v w':=by
 refine Av Tryz.func192 z z ?_
 have hC0:=A3 w0
 unfold Cmp.Or_int at hF
 refine Ac<|Af z z<|Aa<|Ac<|Af z z<|Aa<|A0<|Ac<|Ae z z<|AH Ag g1 z z<|Ae z z<|Aa<|be hF fun r1 hr1 hF=>wN (fun l w=>.inl ()=r1∧l=[(3,(I 0))]∧Below w0.heap.size w0 w∧Ctx [] w0 w []) ?_ ?_
 ·refine A4<|wT<|Bj (fun k l w=>∃x1:Int,l=[(3,(I 0)),(6,u1),(7,(I (List.length a1:Int))),(8,(I x1))]∧Below w0.heap.size w0 w∧Ctx [] w0 w []∧Cmp.Or_int_l1 a1 k x1=some r1) FUEL ⟨0,z,(Aj _ _),hC0,hr1⟩<|?_
  clear hr1
  rintro k1 _ w1 ⟨x1,rfl,hB1,hC1,hL1⟩
  obtain _|k1:=k1<;>rw [Cmp.Or_int_l1] at hL1
  ·cases hL1
  refine Ac<|AZ z z z<|Aa<|A0<|wc hL1 z (fun hL1=>?_) fun hL1=>?_
  ·refine A5<|Am<|A0<|A4<|Ac<|be hL1 fun x2 hx1 hL1=>A9 Ag ty3 g1 hx1 z z z fun b1 o1 h1=>AD ty3 h1 hC1.keep z z fun v1 h2=>?_
   obtain rfl:=Bo h2
   refine Af z z<|Aa<|Ac<|Ae z z<|Ae z z<|BQ z z z<|Aa<|wc hL1 z (fun hL1=>?_) fun hL1=>?_
   ·refine Ac<|Ae z z<|Af z z<|Aa<|AF<|AT<|Ax<|Ax<|AT<|Ax<|Ax<|?_
    obtain rfl:=Ab hL1
    dsimp only at hF
    exact rI hF z z hC1
   exact A5<|AN<|Am<|AL<|AW z z z<|Ae z z<|Aa<|nS<|⟨k1,Aw _,w64 (x1+1),z,(Ao hB1).below,hC1,hL1⟩
  refine Bi (A2 (A2 (AM ?_)))
  exact nS<|⟨Ab hL1,z,(Ao hB1).below,hC1⟩
 rintro _ w2 ⟨rfl,rfl,hB2,hC2⟩
 try dsimp only at hF
 exact Ac<|Ae z z<|Af z z<|Aa<|AF<|rI hF z z hC2
theorem c_M_CompareFacts {w0:World} (a1:Tb) (u1:Value) (g1:RO [] w0 u1 a1.2) (a2:Tb) (u2:Value) (g2:RO [] w0 u2 a2.2) (rr:Int) (hF:M.CompareFacts a1 a2=some rr) :
 Calls Tryz.prog 147 [(.agg #[(I a1.1),u1]),(.agg #[(I a2.1),u2])].toArray w0 fun e w'=>∃v,e=.returned v∧Res w0 rr v w':=by
 refine Av Tryz.func147 z z ?_
 have hC0:=A3 w0
 unfold M.CompareFacts at hF
 refine Ac<|Be (cs:=[(I a1.1),u1]) hC0 z z z fun b1 w1 hC1 hB1 hN1=>Be (cs:=[(I a2.1),u2]) hC1 z z z fun b2 w2 hC2 hB2 hN2=>Af z z<|Aa<|A0<|W_drawn 13 z hmix fun w3 hB3=>have hC3:=hC2.grow hB3;tf 0 AB A7 z z z z z<|tf 2 AB A7 z z z z z<|tf 5 AB Aq z z z z z<|tf 7 AB Aq z z z z z<|be hF fun x1 hr1 hF=>wAS (l':=[(0,(.agg #[(I a1.1),u1])),(1,(.agg #[(I a2.1),u2])),(2,(ptr b1 0)),(3,(ptr b2 0)),(4,(I 0)),(5,(ptr b1 0)),(7,(ptr b2 0)),(10,(ptr b1 1)),(12,(ptr b2 1))]) ⟨z,z,z,z,z,z,z,z,z,A6⟩<|Bg [⟨1,[],fun vs=>AQ (I a1.1),[]⟩,⟨3,[],fun vs=>AQ (I a2.1),[]⟩,⟨4,[],fun vs=>AQ (I x1),[]⟩,⟨6,[],fun vs=>AQ u1,[]⟩,⟨8,[],fun vs=>AQ u2,[]⟩] [[],[],[1,3],[],[]] 4 z (by kernel_rfl) (by kernel_rfl) z ?_ ?_
 ·refine An z ?_ ?_
  ·intro w5 hB5
   refine At<|⟨_,z,?_⟩
   exact Al (hC3.grow hB5) 1 z z AU z z<|Aa<|A1 (Aj _ _) z z ⟨z,z⟩
  refine An z ?_ ?_
  ·intro w5 hB5
   refine At<|⟨_,z,?_⟩
   exact Al (hC3.grow hB5) 0 z z AU z z<|Aa<|A1 (Aj _ _) z z ⟨z,z⟩
  refine An z ?_ ?_
  ·intro w5 hB5
   refine AG z z z ?_
   rintro _ _ ⟨rfl,rfl⟩ _
   refine AG z z z ?_
   rintro _ _ ⟨rfl,rfl⟩ _
   refine At<|⟨_,z,?_⟩
   exact ci Tryz.call184 z z (c_Cmp_Compare_int a1.1 a2.1 x1 hr1) fun w4 hB4=>Aa<|A1 hB4 z z ⟨z,z⟩
  refine An z ?_ ?_
  ·intro w5 hB5
   refine At<|⟨_,z,?_⟩
   exact Al (hC3.grow hB5) 1 z z Au z z<|Aa<|A1 (Aj _ _) z z ⟨z,z⟩
  refine An z ?_ ?_
  ·intro w5 hB5
   refine At<|⟨_,z,?_⟩
   exact Al (hC3.grow hB5) 0 z z Au z z<|Aa<|A1 (Aj _ _) z z ⟨z,z⟩
  exact AX
 intro w6 hB6
 refine Ap z z z ?_
 rintro _ _ ⟨rfl,rfl⟩
 refine Ap z z z ?_
 rintro _ _ ⟨rfl,rfl⟩
 refine Ap z z z ?_
 rintro _ _ ⟨rfl,rfl⟩
 refine Ap z z z ?_
 rintro _ _ ⟨rfl,rfl⟩
 refine Ap z z z ?_
 rintro _ _ ⟨rfl,rfl⟩
 refine Bm fun hn1 hb1=>have hC4:=hC3.grow hB6;be hF fun x2 hr2 hF=>oe 9 z<|ci Tryz.call138 z z (c_Slices_Compare_Lint_int a1.2 u1 (g1.now hC4.keep) a2.2 u2 (g2.now hC4.keep) x2 hr2) fun w7 hB7=>have hC5:=hC4.grow hB7;Aa<|oe 10 z<|Ar (vs:=[(I x1),(I x2)]) hC5 Ag ty3 z z z z (fac z<|fac z<|fa0) z z fun b3 w9 hC6 hB8=>?_
 have hC13:=hC6.row2i
 exact Aa<|be hF fun x3 hr3 hF=>oe 11 z<|ci Tryz.call192 z z (c_Cmp_Or_int ([x1,x2]) (.slice (some ⟨b3,0,none⟩) 2 2) ((hC13.ro 0 z).now (Ay _ _)) x3 hr3) fun w10 hB9=>have hC14:=hC13.grow hB9;Aa<|ta 12 z z z<|dn<|Am<|AF<|rI hF z z hC14
theorem c_M_IsFact {w0:World} (a1:Ta) (u1:Value) (g1:RO [] w0 u1 a1) (a2:Tb) (u2:Value) (g2:RO [] w0 u2 a2.2) (rr:Bool) (hF:M.IsFact a1 a2=some rr) :
 Calls Tryz.prog 220 [u1,(.agg #[(I a2.1),u2])].toArray w0 fun e w'=>∃v,e=.returned v∧Res w0 rr v w':=by
 refine Av Tryz.func220 z z ?_
 have hC0:=A3 w0
 unfold M.IsFact at hF
 refine Ac<|Be (cs:=[(I a2.1),u2]) hC0 z z z fun b1 w1 hC1 hB1 hN1=>Af z z<|Aa<|be hF fun r1 hr1 hF=>B9 (fun l w=>∃x1:Bool,x1=r1∧l=[(4,(.bool x1))]∧Below w1.heap.size w1 w∧Ctx [] w0 w []) ?_ ?_
 ·refine W_drawn 21 z hmix fun w3 hB3=>have hC3:=hC1.grow hB3;tm 0 z z z<|tf 1 AB A7 z z z z z<|oe 2 z<|Al hC3 0 z z AU z z<|Aa<|be hr1 fun x2 hr2 hr1=>oe 3 z<|cb Tryz.call156 z z (c_M_hasRel a1 u1 (g1.now hC3.keep) a2.1 x2 hr2) fun w4 hB4=>have hC4:=hC3.grow hB4;Aa<|tm 4 z z z<|BJ (fun hc1=>?_) (fun hc1=>?_)
  ·replace hr1:=Cm hr1 hc1
   refine tg 5 z z z z (BC AB z z (fun w=>⟨_,Aq w⟩) z)<|Ai z z<|fd AB Aq z z z z<|Aa<|tn 8 z z z z z<|tg 9 z z z z (BC AB z z (fun w=>⟨_,A7 w⟩) z)<|Ai z z<|fd AB A7 z z z z<|Aa<|be hr1 fun x3 hx1 hr1=>wAS (l':=[(0,u1),(1,(.agg #[(I a2.1),u2])),(3,(ptr b1 0)),(4,(.bool false)),(5,u1),(6,(ptr b1 0)),(7,(I a2.1)),(8,(.bool x2)),(9,(.bool true)),(10,(ptr b1 1)),(13,u1),(14,(ptr b1 0))]) ⟨z,z,z,z,z,z,z,z,z,z,z,z,A6⟩<|Bg [⟨6,[],fun vs=>AQ u2,[]⟩,⟨7,[],fun vs=>AQ (I (List.length a2.2:Int)),[]⟩,⟨10,[],fun vs=>AQ (I a2.1),[]⟩,⟨11,[],fun vs=>Cd [] w0 x3,[]⟩,⟨12,[],fun vs=>AQ (I x3),[]⟩] [[],[6],[],[10],[11]] 8 z (by kernel_rfl) (by kernel_rfl) z ?_ ?_
   ·refine An z ?_ ?_
    ·intro w5 hB5
     refine At<|⟨_,z,?_⟩
     exact Ai z z<|Al (hC4.grow hB5) 0 z z Au z z<|Aa<|A1 (Aj _ _) z z ⟨z,z⟩
    refine An z ?_ ?_
    ·intro w5 hB5
     refine AG z z z ?_
     rintro _ _ ⟨rfl,rfl⟩ _
     refine At<|⟨_,z,?_⟩
     exact Ai z z<|AH Ag g2 z z<|Aa<|A1 (Aj _ _) z z ⟨z,z⟩
    refine An z ?_ ?_
    ·intro w5 hB5
     refine At<|⟨_,z,?_⟩
     exact Ai z z<|Al (hC4.grow hB5) 0 z z AU z z<|Aa<|A1 (Aj _ _) z z ⟨z,z⟩
    refine An z ?_ ?_
    ·intro w5 hB5
     refine AG z z z ?_
     rintro _ _ ⟨rfl,rfl⟩ _
     refine At<|⟨_,z,?_⟩
     exact Ai z z<|A9 Ag ty3 g1 hx1 z z z fun b2 o1 h1=>Aa<|A1 (Aj _ _) z z ⟨z,_,_,z,h1⟩
    refine An z ?_ ?_
    ·intro w5 hB5
     refine AG z z z ?_
     rintro _ _ ⟨rfl,b2,o1,rfl,h1⟩ _
     refine At<|⟨_,z,?_⟩
     refine Ai z z<|AD ty3 h1 (hC4.keep.then hB5) z z fun v1 h2=>?_
     obtain rfl:=Bo h2
     exact Aa<|A1 (Aj _ _) z z ⟨z,z⟩
    exact AX
   intro w6 hB6
   refine Ap z z z ?_
   rintro _ _ ⟨rfl,rfl⟩
   refine Ap z z z ?_
   rintro _ _ ⟨rfl,rfl⟩
   refine Ap z z z ?_
   rintro _ _ ⟨rfl,rfl⟩
   refine Ap z z z ?_
   rintro _ _ ⟨rfl,b2,o1,rfl,h1⟩
   refine Ap z z z ?_
   rintro _ _ ⟨rfl,rfl⟩
   refine Bm fun hn1 hb1=>have hC5:=hC4.grow hB6;tg 13 z z z z (Dl z z)<|Ai z z<|BD z z z<|Aa<|tp 14 z z z z<|tm 15 z z z<|BJ (fun hc2=>?_) (fun hc2=>?_)
   ·replace hr1:=Cm hr1 hc2
    refine tg 16 z z z z (BC AB z z (fun w=>⟨_,Aq w⟩) z)<|Ai z z<|fd AB Aq z z z z<|Aa<|oe 17 z<|Ai z z<|Al hC5 0 z z Au z z<|Aa<|be hr1 fun x4 hr3 hr1=>oe 18 z<|Ai z z<|cb Tryz.call219 z z (c_M_areValues a2.2 u2 (g2.now hC5.keep) x4 hr3) fun w7 hB7=>have hC6:=hC5.grow hB7;Aa<|tp 19 z z z z<|ta 20 z z z<|dn<|?_
    have hC7:=hC6.h0
    exact nS<|⟨x4,Ab hr1,z,((((Ao hB3).then hB4).then hB6).then hB7).below,hC7⟩
   replace hr1:=Cn hr1 hc2
   refine sk 16 z z z z z<|sk 17 z z z z z<|sk 18 z z z z z<|tq 19 z z z z<|ta 20 z z z<|dn<|?_
   have hC8:=hC5.h0
   exact nS<|⟨false,Ab hr1,z,(((Ao hB3).then hB4).then hB6).below,hC8⟩
  replace hr1:=Cn hr1 hc1
  refine sk 5 z z z z z<|sk 6 z z z z z<|sk 7 z z z z z<|sk 8 z z z z z<|sk 9 z z z z z<|sk 10 z z z z z<|sk 11 z z z z z<|sk 12 z z z z z<|sk 13 z z z z z<|tq 14 z z z z<|tm 15 z z z<|sk 16 z z z z z<|sk 17 z z z z z<|sk 18 z z z z z<|tq 19 z z z z<|ta 20 z z z<|dn<|?_
  have hC9:=hC4.h0
  exact nS<|⟨false,Ab hr1,z,((Ao hB3).then hB4).below,hC9⟩
 rintro _ w2 ⟨x1,rfl,rfl,hB2,hC2⟩
 exact AF<|rB hF z z hC2
theorem c_M_AreFacts {w0:World} (a1:Ta) (u1:Value) (g1:RO [] w0 u1 a1) (a2:Tc) (u2:Value) (g2:RO [] w0 u2 a2) (rr:Bool) (hF:M.AreFacts a1 a2=some rr) :
 Calls Tryz.prog 194 [u1,u2].toArray w0 fun e w'=>∃v,e=.returned v∧Res w0 rr v w':=by
 refine Av Tryz.func194 z z ?_
 have hC0:=A3 w0
 unfold M.AreFacts at hF
 refine Ac<|Af z z<|Aa<|A0<|Ac<|Ae z z<|AH Ak g2 z z<|Ae z z<|Aa<|be hF fun r1 hr1 hF=>wN (fun l w=>.inl ()=r1∧l=[(0,u1),(1,u2)]∧Ctx [] w0 w []) ?_ ?_
 ·refine A4<|wT<|Bj (fun k l w=>∃x1:Int,l=[(0,u1),(1,u2),(7,u2),(8,(I (List.length a2:Int))),(9,(I x1))]∧Ctx [] w0 w []∧M.AreFacts_l1 a2 a1 k x1=some r1) FUEL ⟨0,z,hC0,hr1⟩<|?_
  clear hr1
  rintro k1 _ w1 ⟨x1,rfl,hC1,hL1⟩
  obtain _|k1:=k1<;>rw [M.AreFacts_l1] at hL1
  ·cases hL1
  refine Ac<|AZ z z z<|Aa<|A0<|wc hL1 z (fun hL1=>?_) fun hL1=>?_
  ·refine A5<|Am<|A0<|A4<|Ac<|Ae z z<|be hL1 fun x2 hx1 hL1=>A9 Ak ty77 g2 hx1 z z z fun b1 o1 h1=>AD ty77 h1 hC1.keep z z fun v1 h2=>?_
   obtain ⟨v2,rfl,h3⟩:=BE h2
   refine Bq hC1 zero77 z z fun b2 w2 hC2 hB2 hN1=>Af z z<|AE (cs':=[(I x2.1),v2]) (new:=[(I x2.1),v2]) hC2 0 z z (fac z<|fac (Br h3)<|fa0) z Bb z z fun w3 hC3 hKp1=>?_
   try dsimp only [List.set] at hC3
   have hk1:=AV (Ao hB2) hN1 hKp1
   refine Aa<|be hL1 fun r2 hr2 hL1=>B9 (fun l w=>∃x3:Bool,x3=r2∧l=[(0,u1),(1,u2),(7,u2),(8,(I (List.length a2:Int))),(9,(I x1)),(31,(.bool x3))]∧Below w3.heap.size w3 w∧Ctx [] w0 w []) ?_ ?_
   ·refine W_drawn 18 z hmix fun w5 hB4=>have hC5:=hC3.grow hB4;tm 0 z z z<|oe 1 z<|Az [(I x2.1),v2] hC5 0 z z z Bw Bb z z<|Aa<|be hr2 fun x4 hr3 hr2=>oe 2 z<|cb Tryz.call220 z z (c_M_IsFact a1 u1 (g1.now hC5.keep) (x2.1,x2.2) v2 (h3.now hC5.keep) x4 hr3) fun w6 hB5=>have hC6:=hC5.grow hB5;Aa<|tk 3 z z (Cw z)<|Bv z z<|Aa<|tm 4 z z z<|BJ (fun hc2=>?_) (fun hc2=>?_)
    ·replace hr2:=Cm hr2 hc2
     refine sk 5 z z z z z<|sk 6 z z z z z<|sk 7 z z z z z<|sk 8 z z z z z<|sk 9 z z z z z<|sk 10 z z z z z<|sk 11 z z z z z<|sk 12 z z z z z<|sk 13 z z z z z<|sk 14 z z z z z<|sk 15 z z z z z<|sk 16 z z z z z<|tp 17 z z z z<|dn<|?_
     have hC7:=hC6.h0
     exact nS<|⟨true,Ab hr2,z,((Ao hB4).then hB5).below,hC7⟩
    replace hr2:=Cn hr2 hc2
    refine tn 5 z z z z z<|tg 6 z z z z (fl_gtr z z)<|Ai z z<|Ck z z z<|Aa<|tn 7 z z z z z<|BJ (fun hc3=>?_) (fun hc3=>?_)
    ·replace hr2:=Cm hr2 hc3
     refine tn 8 z z z z z<|tn 9 z z z z z<|tg 10 z z z z (CO z z)<|Ai z z<|Cb z z z<|Aa<|be hr2 fun x5 hx2 hr2=>tg 11 z z z z (B5 Ak ty77 g2 hx2 z z)<|Ai z z<|A9 Ak ty77 g2 hx2 z z z fun b3 o2 h4=>Aa<|wAS (l':=[(0,u1),(1,u2),(5,(I x1)),(6,(ptr b2 0)),(7,u2),(8,(I (List.length a2:Int))),(9,(I x1)),(10,(.bool (decide (x1 < (List.length a2:Int))))),(11,(I x1)),(12,(ptr b1 o1)),(13,(.agg #[(I x2.1),v2])),(14,u1),(15,(.agg #[(I x2.1),v2])),(16,(.bool x4)),(17,(.bool (!x4))),(18,(.bool false)),(19,(I x1)),(20,(.bool (decide (0 < x1)))),(21,(.bool true)),(22,u2),(23,(I x1)),(24,(I (w64 (x1 - 1)))),(25,(ptr b3 o2))]) ⟨z,z,z,z,z,z,z,z,z,z,z,z,z,z,z,z,z,z,z,z,z,z,z,A6⟩<|Bg [⟨12,[],fun vs=>Cj [] w0 x5,[]⟩,⟨13,[],fun vs=>AQ (.agg #[(I x2.1),v2]),[]⟩] [[],[]] 4 z (by kernel_rfl) (by kernel_rfl) z ?_ ?_
     ·refine An z ?_ ?_
      ·intro w7 hB6
       refine At<|⟨_,z,?_⟩
       exact Ai z z<|AD ty77 h4 (hC6.keep.then hB6) z z fun v5 h7=>Aa<|A1 (Aj _ _) z z ⟨z,h7⟩
      refine An z ?_ ?_
      ·intro w7 hB6
       refine At<|⟨_,z,?_⟩
       exact Ai z z<|Az [(I x2.1),v2] (hC6.grow hB6) 0 z z z Bw Bb z z<|Aa<|A1 (Aj _ _) z z ⟨z,z⟩
      exact AX
     intro w9 hB7
     refine Ap z z z ?_
     rintro v5 _ ⟨rfl,h7⟩
     obtain ⟨v4,rfl,h6⟩:=BE h7
     refine Ap z z z ?_
     rintro _ _ ⟨rfl,rfl⟩
     refine Bm fun hn1 hb1=>have hC8:=hC6.grow hB7;be hr2 fun x6 hr4 hr2=>oe 14 z<|Ai z z<|ci Tryz.call147 z z (c_M_CompareFacts x5 v4 (h6.now hC8.keep) (x2.1,x2.2) v2 (h3.now hC8.keep) x6 hr4) fun w10 hB8=>have hC9:=hC8.grow hB8;Aa<|tg 15 z z z z (fl_geq z z)<|Ai z z<|Cr z z z<|Aa<|tg 16 z z z z (Df z z)<|Ai z z<|AJ z z z<|Aa<|tq 17 z z z z<|dn<|?_
     have hC10:=hC9.h0
     exact nS<|⟨(decide (0 ≤ x6)),Ab hr2,z,((((Ao hB4).then hB5).then hB7).then hB8).below,hC10⟩
    replace hr2:=Cn hr2 hc3
    refine sk 8 z z z z z<|sk 9 z z z z z<|sk 10 z z z z z<|sk 11 z z z z z<|sk 12 z z z z z<|sk 13 z z z z z<|sk 14 z z z z z<|sk 15 z z z z z<|tg 16 z z z z (Dg z z)<|Ai z z<|AK z z z<|Aa<|tq 17 z z z z<|dn<|?_
    have hC11:=hC6.h0
    exact nS<|⟨false,Ab hr2,z,((Ao hB4).then hB5).below,hC11⟩
   rintro _ w4 ⟨x3,rfl,rfl,hB3,hC4⟩
   refine wc hL1 z (fun hL1=>?_) fun hL1=>?_
   ·refine Ac<|Af z z<|Aa<|AF<|AT<|Ax<|Ax<|AT<|Ax<|Ax<|?_
    obtain rfl:=Ab hL1
    dsimp only at hF
    exact rB hF z z hC4
   exact A5<|AN<|Am<|AL<|AW z z z<|Ae z z<|Aa<|nS<|⟨k1,Aw _,w64 (x1+1),z,hC4,hL1⟩
  refine Bi (A2 (A2 (AM ?_)))
  exact nS<|⟨Ab hL1,z,hC1⟩
 rintro _ w11 ⟨rfl,rfl,hC12⟩
 try dsimp only at hF
 refine be hF fun r3 hr5 hF=>B9 (fun l w=>∃x7:Bool,x7=r3∧l=[(4,(.bool x7))]∧Below w11.heap.size w11 w∧Ctx [] w0 w []) ?_ ?_
 ·refine AL<|Ae z z<|be hr5 fun x8 hr6 hr5=>cb CY z z (c_M_IsSchema a1 u1 (g1.now hC12.keep) x8 hr6) fun w13 hB11=>have hC14:=hC12.grow hB11;Ae z z<|wk hr5 (fun hr5=>?_) fun hr5=>?_
  ·exact Ai z z<|Ae z z<|Ai z z<|AH Ak g2 z z<|Ai z z<|Cv z z z<|AJ z z z<|Af z z<|Aa<|nS<|⟨(decide ((List.length a2:Int) ≤ 24)),Ab hr5,z,(Ao hB11).below,hC14⟩
  exact gs z z z z<|gs z z z z<|gs z z z z<|AK z z z<|Af z z<|Aa<|nS<|⟨false,Ab hr5,z,(Ao hB11).below,hC14⟩
 rintro _ w12 ⟨x7,rfl,rfl,hB10,hC13⟩
 exact AF<|rB hF z z hC13
end Go.Gx.Px
