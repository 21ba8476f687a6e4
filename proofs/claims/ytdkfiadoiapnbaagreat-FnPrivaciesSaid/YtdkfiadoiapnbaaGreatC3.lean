/- The contracts of the Go functions against the pure functions, printed by program. Conditions: each says them. -/
import Derived.Test.YtdkfiadoiapnbaaGreatC2
set_option linter.unusedVariables false
set_option linter.unusedSimpArgs false
set_option maxRecDepth 100000
set_option maxHeartbeats 4000000
namespace Go.Gx.Px
open Go.Proofs Go.RowKit
open K9
theorem c_Slices_ContainsFunc_Lint_int_M_CanCall_c1 {w0:World} (a1:(List Int)) (u1:Value) (g1:RO [] w0 u1 a1) (pb1:Nat) (ax1:(Int × (List Int))) (g2:ROAt [] w0 pb1 0 ax1) (pb2:Nat) (ax2:(List Int)) (g3:ROAt [] w0 pb2 0 ax2) (rr:Bool) (hF:Slices.ContainsFunc_Lint_int_M_CanCall_c1 a1 ax1 ax2=some rr) :
 Calls Tryz.prog 71 [u1,(.func (.func 108) #[] #[(ptr pb1 0),(ptr pb2 0)])].toArray w0 fun e w'=>∃v,e=.returned v∧Res w0 rr v w':=by
 refine Au Cr z z ?_
 have hC0:=AA w0
 unfold Slices.ContainsFunc_Lint_int_M_CanCall_c1 at hF
 refine Ad<|Ae z z<|Ac<|Ad<|Ag z z<|Ag z z<|be hF fun x1 hr1 hF=>ci Cf z z (c_Slices_IndexFunc_Lint_int_M_CanCall_c1 a1 u1 (g1.now hC0.keep) pb1 ax1 (g2.now hC0.keep) pb2 ax2 (g3.now hC0.keep) x1 hr1) fun w1 hB1=>have hC1:=hC0.grow hB1;Cq z z z<|Ae z z<|Ac<|AP<|?_
 obtain rfl:=Aa hF
 exact A8 z z<|⟨_,z,AR hC1 _⟩
theorem c_M_CanCall {w0:World} (a1:(Int × (List Int) × Int × Int × Int)) (u1:Value) (g1:RO [] w0 u1 a1.2.1) (a2:(Int × (List Int))) (u2:Value) (g2:RO [] w0 u2 a2.2) (a3:(List Int)) (u3:Value) (g3:RO [] w0 u3 a3) (rr:Bool) (hF:M.CanCall a1 a2 a3=some rr) :
 Calls Tryz.prog 86 [(.agg #[(I a1.1),u1,(I a1.2.2.1),(I a1.2.2.2.1),(I a1.2.2.2.2)]),(.agg #[(I a2.1),u2]),u3].toArray w0 fun e w'=>∃v,e=.returned v∧Res w0 rr v w':=by
 refine Au Tryz.func86 z z ?_
 have hC0:=AA w0
 unfold M.CanCall at hF
 refine Ad<|Bv (cs:=[(I a1.1),u1,(I a1.2.2.1),(I a1.2.2.2.1),(I a1.2.2.2.2)]) hC0 z z z fun b1 w1 hC1 hB1 hN1=>Bv (cs:=[(I a2.1),u2]) hC1 z z z fun b2 w2 hC2 hB2 hN2=>Bv (cs:=[u3]) hC2 (Cj g3) z z fun b3 w3 hC3 hB3 hN3=>Ae z z<|Ac<|be hF fun r1 hr1 hF=>BA (fun l w=>∃x1:Bool,x1=r1∧l=[(6,(.bool x1))]∧Below w3.heap.size w3 w∧Ctx [] w0 w []) ?_ ?_
 ·refine Bb<|fd AN AE z z z z<|Ao hC3 2 z z Bl z z<|fd AB AE z z z z<|Ao hC3 1 z z Bl z z<|BT z z z<|Ag z z<|Br (fun hc1=>?_) (fun hc1=>?_)
  ·replace hr1:=AC hr1 hc1
   refine Aj z z<|fd AN Aw z z z z<|Aj z z<|Ao hC3 2 z z AQ z z<|Aj z z<|BL z z<|be hr1 fun x2 hr2 hr1=>Aj z z<|cb Cs z z (c_Slices_ContainsFunc_Lint_int_M_CanCall_c1 a1.2.1 u1 (g1.now hC3.keep) b2 (a2.1,a2.2) (hC3.boxAt 1 z (repw_pair repw_int (repw_slice (g2.now hC3.keep)))) b3 a3 (hC3.boxAt 0 z (repw_slice (g3.now hC3.keep))) x2 hr2) fun w5 hB5=>have hC5:=hC3.grow hB5;Aj z z<|Bx z z<|AV z z z<|Ae z z<|Ac<|?_
   obtain rfl:=Aa hr1
   have hC6:=hC5.h0
   exact Ak (l':=[(6,(.bool (!x2)))]) ⟨z,Ai⟩<|⟨(!x2),z,z,(Ap hB5).below,hC6⟩
  replace hr1:=AD hr1 hc1
  refine gs z z z z<|gs z z z z<|gs z z z z<|gs z z z z<|gs z z z z<|AS z z z<|Ae z z<|Ac<|?_
  obtain rfl:=Aa hr1
  have hC7:=hC3.h0
  exact Ak (l':=[(6,(.bool false))]) ⟨z,Ai⟩<|⟨false,z,z,(Al _ _),hC7⟩
 rintro _ w4 ⟨x1,rfl,rfl,hB4,hC4⟩
 try dsimp only at hF
 refine AP ?_
 obtain rfl:=Aa hF
 exact A8 z z<|⟨_,z,AR hC4 _⟩
theorem c_M_IsOrder {w0:World} (a1:(List Int)) (u1:Value) (g1:RO [] w0 u1 a1) (a2:(List (Int × (List Int) × Int × Int × Int))) (u2:Value) (g2:RO [] w0 u2 a2) (a3:((List Int) × (List (Int × (List Int))))) (u3:Value) (g3:RO [] w0 u3 a3.1) (u4:Value) (g4:RO [] w0 u4 a3.2) (a4:(List (Int × Int))) (u5:Value) (g5:RO [] w0 u5 a4) (rr:Bool) (hF:M.IsOrder a1 a2 a3 a4=some rr) :
 Calls Tryz.prog 48 [u1,u2,(.agg #[u3,u4]),u5].toArray w0 fun e w'=>∃v,e=.returned v∧Res w0 rr v w':=by
 refine Au Tryz.func48 z z ?_
 have hC0:=AA w0
 unfold M.IsOrder at hF
 refine Ad<|Bv (cs:=[u3,u4]) hC0 z z z fun b1 w1 hC1 hB1 hN1=>Ae z z<|Ac<|A6<|be hF fun r1 hr1 hF=>BA (fun l w=>∃x1:Bool,x1=r1∧l=[(1,u2),(3,u5),(6,(ptr b1 0)),(25,(.bool x1))]∧Below w1.heap.size w1 w∧Ctx [] w0 w [Af b1 [u3,u4]]) ?_ ?_
 ·refine Bb<|Ag z z<|Ag z z<|A9 [u3,u4] hC1 0 z z z AT A4 z z<|be hr1 fun x2 hr2 hr1=>cb Tryz.call58 z z (c_M_areAsked a1 u1 (g1.now hC1.keep) a2 u2 (g2.now hC1.keep) (a3.1,a3.2) u3 (g3.now hC1.keep) u4 (g4.now hC1.keep) x2 hr2) fun w3 hB3=>have hC3:=hC1.grow hB3;Bx z z<|Ag z z<|Br (fun hc1=>?_) (fun hc1=>?_)
  ·replace hr1:=AC hr1 hc1
   refine gs z z z z<|gs z z z z<|gs z z z z<|gs z z z z<|gs z z z z<|gs z z z z<|AV z z z<|Ac<|?_
   obtain rfl:=Aa hr1
   exact Ak (l':=[(1,u2),(3,u5),(6,(ptr b1 0)),(25,(.bool true))]) ⟨z,z,z,z,Ai⟩<|⟨true,z,z,(Ap hB3).below,hC3⟩
  replace hr1:=AD hr1 hc1
  refine Aj z z<|Ag z z<|Aj z z<|AZ A5 g5 z z<|Aj z z<|fd A0 AU z z z z<|Aj z z<|Ao hC3 0 z z Ba z z<|Aj z z<|AZ Ax g4 z z<|Aj z z<|C4 z z z<|AS z z z<|Ac<|?_
  obtain rfl:=Aa hr1
  exact Ak (l':=[(1,u2),(3,u5),(6,(ptr b1 0)),(25,(.bool (!decide ((List.length a4:Int)=(List.length a3.2:Int)))))]) ⟨z,z,z,z,Ai⟩<|⟨(!decide ((List.length a4:Int)=(List.length a3.2:Int))),z,z,(Ap hB3).below,hC3⟩
 rintro _ w2 ⟨x1,rfl,rfl,hB2,hC2⟩
 try dsimp only at hF
 refine AI z (fun hc2=>?_) (fun hc2=>?_)
 ·replace hF:=AC hF hc2
  refine Ad<|Ae z z<|Ac<|AP<|Az<|?_
  obtain rfl:=Aa hF
  exact A8 z z<|⟨_,z,AR hC2 _⟩
 replace hF:=AD hF hc2
 refine AJ<|Am<|Ad<|fd A0 AU z z z z<|Ao hC2 0 z z Ba z z<|AZ Ax g4 z z<|be hF fun x3 hx1 hF=>WL_makeSlice hC2 BO ty4 z zc4 zr4 hx1 z z z fun b2 w4 hC4 hB4=>Ae z z<|Ac<|Ad<|A2 (vs:=[]) hC4 Ah ty3 z z z z (by simp) z z fun b3 w5 hC5 hB5=>?_
 have hC6:=hC5.row0 (α:=Int)
 have hC7:=hC6.front 1 z
 dsimp only [List.eraseIdx,List.cons_append,List.nil_append,List.append_nil] at hC7
 have hC8:Ctx [] w0 w5 (Ab (.slice (some ⟨b3,0,none⟩) 0 0) (([]:List Int):List Int)::[Ab (.slice (some ⟨b2,0,none⟩) (Int.toNat (List.length a3.2:Int)) (Int.toNat (List.length a3.2:Int))) (x3:(List Bool)),Af b1 [u3,u4]]):=hC7.rowOwn (by simp [maxLen])
 refine Ae z z<|Ac<|A6<|Ad<|Ag z z<|AZ A5 g5 z z<|Ag z z<|Ac<|be hF fun r2 hr3 hF=>Bd (fun l w=>.inl ()=r2∧l=[]∧Ctx [] w0 w []) ?_ ?_
 ·refine AH<|wS (l':=[(1,u2),(6,(ptr b1 0)),(9,(.slice (some ⟨b2,0,none⟩) (Int.toNat (List.length a3.2:Int)) (Int.toNat (List.length a3.2:Int)))),(10,(.slice (some ⟨b3,0,none⟩) 0 0)),(31,u5),(32,(I (List.length a4:Int))),(33,(I 0))]) ⟨z,z,z,z,z,z,z,Ai⟩<|Bu (fun k l w=>∃x4:(List Bool),∃v1:Value,∃x5:(List Int),∃x6:Int,l=[(1,u2),(6,(ptr b1 0)),(9,(.slice (some ⟨b2,0,none⟩) (Int.toNat (List.length a3.2:Int)) (Int.toNat (List.length a3.2:Int)))),(10,v1),(31,u5),(32,(I (List.length a4:Int))),(33,(I x6))]∧Ctx [] w0 w [Ab v1 (x5:(List Int)),Ab (.slice (some ⟨b2,0,none⟩) (Int.toNat (List.length a3.2:Int)) (Int.toNat (List.length a3.2:Int))) (x4:(List Bool)),Af b1 [u3,u4]]∧M.IsOrder_l1 a4 a3 a2 k x4 x5 x6=some r2) FUEL ⟨x3,(.slice (some ⟨b3,0,none⟩) 0 0),([]:List Int),0,z,hC8,hr3⟩<|?_
  clear hr3
  rintro k1 _ w6 ⟨x4,v1,x5,x6,rfl,hC9,hL1⟩
  cases k1 with
  | zero=>rw [M.IsOrder_l1] at hL1; cases hL1
  | succ k1 =>
   rw [M.IsOrder_l1] at hL1
   refine Ad<|Bo z z z<|Ac<|A6<|AI z (fun hc3=>?_) (fun hc3=>?_)
   ·replace hL1:=AC hL1 hc3
    refine AJ<|Am<|A6<|AH<|Ad<|be hL1 fun x7 hx2 hL1=>AG A5 ty75 g5 hx2 z z z fun b4 o1 h1=>A3 ty75 h1 hC9.keep z z fun v2 h2=>?_
    obtain rfl:=ro_st75 h2
    refine By hC9 zero75 z z fun b5 w7 hC10 hB7 hN2=>AO (cs':=[(I x7.1),(I x7.2)]) (new:=[(I x7.1),(I x7.2)]) hC10 0 z z (fac z<|fac z<|fa0) z BI z z fun w9 hC11 hKp1=>?_
    try dsimp only [List.set] at hC11
    have hk1:=AY (Ap hB7) hN2 hKp1
    refine Ac<|A6<|be hL1 fun r3 hr4 hL1=>BA (fun l w=>∃x8:Bool,x8=r3∧l=[(1,u2),(6,(ptr b1 0)),(9,(.slice (some ⟨b2,0,none⟩) (Int.toNat (List.length a3.2:Int)) (Int.toNat (List.length a3.2:Int)))),(10,v1),(12,(ptr b5 0)),(31,u5),(32,(I (List.length a4:Int))),(33,(I x6)),(76,(.bool x8))]∧Below w9.heap.size w9 w∧Ctx [] w0 w [Af b5 [(I x7.1),(I x7.2)],Ab v1 (x5:(List Int)),Ab (.slice (some ⟨b2,0,none⟩) (Int.toNat (List.length a3.2:Int)) (Int.toNat (List.length a3.2:Int))) (x4:(List Bool)),Af b1 [u3,u4]]) ?_ ?_
    ·refine B1 40 z hmix fun w11 hB9=>have hC13:=hC11.grow hB9;tf 0 AX AE z z z z z<|tf 2 A0 AU z z z z z<|wAS (l':=[(1,u2),(6,(ptr b1 0)),(9,(.slice (some ⟨b2,0,none⟩) (Int.toNat (List.length a3.2:Int)) (Int.toNat (List.length a3.2:Int)))),(10,v1),(12,(ptr b5 0)),(31,u5),(32,(I (List.length a4:Int))),(33,(I x6)),(34,(.bool (decide (x6 < (List.length a4:Int))))),(35,(ptr b4 o1)),(36,(.agg #[(I x7.1),(I x7.2)])),(37,(ptr b5 0)),(39,(ptr b1 1))]) ⟨z,z,z,z,z,z,z,z,z,z,z,z,z,Ai⟩<|Bw [⟨1,[],fun vs=>Bh (I x7.1),[]⟩,⟨3,[],fun vs=>Bh u4,[]⟩,⟨4,[],fun vs=>Bh (I (List.length a3.2:Int)),[]⟩,⟨5,[],fun vs=>Bh (I (w64 ((List.length a3.2:Int) - 1))),[]⟩] [[],[],[3],[4]] 34 z (by kernel_rfl) (by kernel_rfl) z ?_ ?_
     ·refine An z ?_ ?_
      ·intro w12 hB10
       refine Ar<|⟨_,z,?_⟩
       exact Ao (hC13.grow hB10) 0 z z Bl z z<|Ac<|Ay (Al _ _) z z ⟨z,z⟩
      refine An z ?_ ?_
      ·intro w12 hB10
       refine Ar<|⟨_,z,?_⟩
       exact Ao (hC13.grow hB10) 3 z z Ba z z<|Ac<|Ay (Al _ _) z z ⟨z,z⟩
      refine An z ?_ ?_
      ·intro w12 hB10
       refine AK z z z ?_
       rintro _ _ ⟨rfl,rfl⟩ _
       refine Ar<|⟨_,z,?_⟩
       exact AZ Ax g4 z z<|Ac<|Ay (Al _ _) z z ⟨z,z⟩
      refine An z ?_ ?_
      ·intro w12 hB10
       refine AK z z z ?_
       rintro _ _ ⟨rfl,rfl⟩ _
       refine Ar<|⟨_,z,?_⟩
       exact BN z z z<|Ac<|Ay (Al _ _) z z ⟨z,z⟩
      exact Bp
     intro w13 hB11
     refine At z z z ?_
     rintro _ _ ⟨rfl,rfl⟩
     refine At z z z ?_
     rintro _ _ ⟨rfl,rfl⟩
     refine At z z z ?_
     rintro _ _ ⟨rfl,rfl⟩
     refine At z z z ?_
     rintro _ _ ⟨rfl,rfl⟩
     refine B0 fun hn1 hb1=>have hC14:=hC13.grow hB11;be hr4 fun x9 hr5 hr4=>oe 6 z<|cb BE z z (c_M_within x7.1 0 (w64 ((List.length a3.2:Int) - 1)) x9 hr5) fun w14 hB12=>have hC15:=hC14.grow hB12;Ac<|tk 7 z z (Cm z)<|Bx z z<|Ac<|tm 8 z z z<|BQ (fun hc4=>?_) (fun hc4=>?_)
     ·replace hr4:=AC hr4 hc4
      refine sk 9 z z z z z<|sk 10 z z z z z<|sk 11 z z z z z<|sk 12 z z z z z<|sk 13 z z z z z<|tp 14 z z z z<|tm 15 z z z<|sk 16 z z z z z<|sk 17 z z z z z<|sk 18 z z z z z<|sk 19 z z z z z<|sk 20 z z z z z<|sk 21 z z z z z<|sk 22 z z z z z<|tp 23 z z z z<|tm 24 z z z<|sk 25 z z z z z<|sk 26 z z z z z<|sk 27 z z z z z<|sk 28 z z z z z<|sk 29 z z z z z<|sk 30 z z z z z<|sk 31 z z z z z<|sk 32 z z z z z<|sk 33 z z z z z<|sk 34 z z z z z<|sk 35 z z z z z<|sk 36 z z z z z<|sk 37 z z z z z<|sk 38 z z z z z<|tp 39 z z z z<|dn<|?_
      obtain rfl:=Aa hr4
      exact Ak (l':=[(1,u2),(6,(ptr b1 0)),(9,(.slice (some ⟨b2,0,none⟩) (Int.toNat (List.length a3.2:Int)) (Int.toNat (List.length a3.2:Int)))),(10,v1),(12,(ptr b5 0)),(31,u5),(32,(I (List.length a4:Int))),(33,(I x6)),(76,(.bool true))]) ⟨z,z,z,z,z,z,z,z,z,Ai⟩<|⟨true,z,z,(((Ap hB9).then hB11).then hB12).below,hC15⟩
     replace hr4:=AD hr4 hc4
     refine tn 9 z z z z z<|tg 10 z z z z (BC AX z z (fun w=>⟨_,AE w⟩) z)<|Aj z z<|fd AX AE z z z z<|Ac<|oe 11 z<|Aj z z<|Ao hC15 0 z z Bl z z<|Ac<|be hr4 fun x10 hx3 hr4=>tg 12 z z z z (B4 BO ty4 (hC15.ro 2 z) hx3 z z)<|Aj z z<|AG BO ty4 (hC15.ro 2 z) hx3 z z z fun b6 o2 h3=>Ac<|oe 13 z<|Aj z z<|A3 ty4 h3 (Aq _ _) z z fun v3 h4=>?_
     obtain rfl:=ro_bool h4
     refine Ac<|tq 14 z z z z<|tm 15 z z z<|BQ (fun hc5=>?_) (fun hc5=>?_)
     ·replace hr4:=AC hr4 hc5
      refine sk 16 z z z z z<|sk 17 z z z z z<|sk 18 z z z z z<|sk 19 z z z z z<|sk 20 z z z z z<|sk 21 z z z z z<|sk 22 z z z z z<|tp 23 z z z z<|tm 24 z z z<|sk 25 z z z z z<|sk 26 z z z z z<|sk 27 z z z z z<|sk 28 z z z z z<|sk 29 z z z z z<|sk 30 z z z z z<|sk 31 z z z z z<|sk 32 z z z z z<|sk 33 z z z z z<|sk 34 z z z z z<|sk 35 z z z z z<|sk 36 z z z z z<|sk 37 z z z z z<|sk 38 z z z z z<|tp 39 z z z z<|dn<|?_
      obtain rfl:=Aa hr4
      exact Ak (l':=[(1,u2),(6,(ptr b1 0)),(9,(.slice (some ⟨b2,0,none⟩) (Int.toNat (List.length a3.2:Int)) (Int.toNat (List.length a3.2:Int)))),(10,v1),(12,(ptr b5 0)),(31,u5),(32,(I (List.length a4:Int))),(33,(I x6)),(76,(.bool true))]) ⟨z,z,z,z,z,z,z,z,z,Ai⟩<|⟨true,z,z,(((Ap hB9).then hB11).then hB12).below,hC15⟩
     replace hr4:=AD hr4 hc5
     refine tg 16 z z z z (BC AX z z (fun w=>⟨_,AE w⟩) z)<|Aj z z<|fd AX AE z z z z<|Ac<|tn 18 z z z z z<|tg 19 z z z z (CJ Bc g2 z)<|Aj z z<|AZ Bc g2 z z<|Ac<|tg 20 z z z z (C3 z z)<|Aj z z<|BN z z z<|Ac<|oe 17 z<|Aj z z<|Ao hC15 0 z z Bl z z<|Ac<|be hr4 fun x11 hr6 hr4=>oe 21 z<|Aj z z<|cb BE z z (c_M_within x7.2 0 (w64 ((List.length a2:Int) - 1)) x11 hr6) fun w15 hB13=>have hC16:=hC15.grow hB13;Ac<|tg 22 z z z z (Cm z)<|Aj z z<|Bx z z<|Ac<|tq 23 z z z z<|tm 24 z z z<|BQ (fun hc6=>?_) (fun hc6=>?_)
     ·replace hr4:=AC hr4 hc6
      refine sk 25 z z z z z<|sk 26 z z z z z<|sk 27 z z z z z<|sk 28 z z z z z<|sk 29 z z z z z<|sk 30 z z z z z<|sk 31 z z z z z<|sk 32 z z z z z<|sk 33 z z z z z<|sk 34 z z z z z<|sk 35 z z z z z<|sk 36 z z z z z<|sk 37 z z z z z<|sk 38 z z z z z<|tp 39 z z z z<|dn<|?_
      obtain rfl:=Aa hr4
      exact Ak (l':=[(1,u2),(6,(ptr b1 0)),(9,(.slice (some ⟨b2,0,none⟩) (Int.toNat (List.length a3.2:Int)) (Int.toNat (List.length a3.2:Int)))),(10,v1),(12,(ptr b5 0)),(31,u5),(32,(I (List.length a4:Int))),(33,(I x6)),(76,(.bool true))]) ⟨z,z,z,z,z,z,z,z,z,Ai⟩<|⟨true,z,z,((((Ap hB9).then hB11).then hB12).then hB13).below,hC16⟩
     replace hr4:=AD hr4 hc6
     refine tn 25 z z z z z<|tg 26 z z z z (BC AX z z (fun w=>⟨_,AE w⟩) z)<|Aj z z<|fd AX AE z z z z<|Ac<|tg 30 z z z z (BC A0 z z (fun w=>⟨_,AU w⟩) z)<|Aj z z<|fd A0 AU z z z z<|Ac<|tg 32 z z z z (BC AX z z (fun w=>⟨_,AE w⟩) z)<|Aj z z<|fd AX AE z z z z<|Ac<|tn 36 z z z z z<|be hr4 fun x12 hx4 hr4=>be hr4 fun x13 hx5 hr4=>wAS (l':=[(1,u2),(6,(ptr b1 0)),(9,(.slice (some ⟨b2,0,none⟩) (Int.toNat (List.length a3.2:Int)) (Int.toNat (List.length a3.2:Int)))),(10,v1),(12,(ptr b5 0)),(31,u5),(32,(I (List.length a4:Int))),(33,(I x6)),(34,(.bool (decide (x6 < (List.length a4:Int))))),(35,(ptr b4 o1)),(36,(.agg #[(I x7.1),(I x7.2)])),(37,(ptr b5 0)),(38,(I x7.1)),(39,(ptr b1 1)),(40,u4),(41,(I (List.length a3.2:Int))),(42,(I (w64 ((List.length a3.2:Int) - 1)))),(43,(.bool x9)),(44,(.bool (!x9))),(45,(.bool false)),(46,(.slice (some ⟨b2,0,none⟩) (Int.toNat (List.length a3.2:Int)) (Int.toNat (List.length a3.2:Int)))),(47,(ptr b5 0)),(48,(I x7.1)),(49,(ptr b6 o2)),(50,(.bool x10)),(51,(.bool x10)),(52,(.bool false)),(53,(ptr b5 1)),(54,(I x7.2)),(55,u2),(56,(I (List.length a2:Int))),(57,(I (w64 ((List.length a2:Int) - 1)))),(58,(.bool x11)),(59,(.bool (!x11))),(60,(.bool (!x11))),(61,(.bool false)),(62,u2),(63,(ptr b5 1)),(67,(ptr b1 1)),(69,(ptr b5 0)),(73,v1)]) ⟨z,z,z,z,z,z,z,z,z,z,z,z,z,z,z,z,z,z,z,z,z,z,z,z,z,z,z,z,z,z,z,z,z,z,z,z,z,z,z,z,z,Ai⟩<|Bw [⟨27,[],fun vs=>Bh (I x7.2),[]⟩,⟨28,[],fun vs=>Ci [] w0 x12,[]⟩,⟨29,[],fun vs=>Ct [] w0 x12,[]⟩,⟨31,[],fun vs=>Bh u4,[]⟩,⟨33,[],fun vs=>Bh (I x7.1),[]⟩,⟨34,[],fun vs=>Ci [] w0 x13,[]⟩,⟨35,[],fun vs=>Ct [] w0 x13,[]⟩] [[],[27],[28],[],[],[31,33],[34]] 3 z (by kernel_rfl) (by kernel_rfl) z ?_ ?_
     ·refine An z ?_ ?_
      ·intro w16 hB14
       refine Ar<|⟨_,z,?_⟩
       exact Aj z z<|Ao (hC16.grow hB14) 0 z z Bl z z<|Ac<|Ay (Al _ _) z z ⟨z,z⟩
      refine An z ?_ ?_
      ·intro w16 hB14
       refine AK z z z ?_
       rintro _ _ ⟨rfl,rfl⟩ _
       refine Ar<|⟨_,z,?_⟩
       exact Aj z z<|AG Bc ty71 g2 hx4 z z z fun b7 o3 h5=>Ac<|Ay (Al _ _) z z ⟨z,_,_,z,h5⟩
      refine An z ?_ ?_
      ·intro w16 hB14
       refine AK z z z ?_
       rintro _ _ ⟨rfl,b7,o3,rfl,h5⟩ _
       refine Ar<|⟨_,z,?_⟩
       exact Aj z z<|A3 ty71 h5 (hC16.keep.then hB14) z z fun v6 h8=>Ac<|Ay (Al _ _) z z ⟨z,h8⟩
      refine An z ?_ ?_
      ·intro w16 hB14
       refine Ar<|⟨_,z,?_⟩
       exact Aj z z<|Ao (hC16.grow hB14) 3 z z Ba z z<|Ac<|Ay (Al _ _) z z ⟨z,z⟩
      refine An z ?_ ?_
      ·intro w16 hB14
       refine Ar<|⟨_,z,?_⟩
       exact Aj z z<|Ao (hC16.grow hB14) 0 z z Bl z z<|Ac<|Ay (Al _ _) z z ⟨z,z⟩
      refine An z ?_ ?_
      ·intro w16 hB14
       refine AK z z z ?_
       rintro _ _ ⟨rfl,rfl⟩ _
       refine AK z z z ?_
       rintro _ _ ⟨rfl,rfl⟩ _
       refine Ar<|⟨_,z,?_⟩
       exact Aj z z<|AG Ax ty84 g4 hx5 z z z fun b8 o4 h9=>Ac<|Ay (Al _ _) z z ⟨z,_,_,z,h9⟩
      refine An z ?_ ?_
      ·intro w16 hB14
       refine AK z z z ?_
       rintro _ _ ⟨rfl,b8,o4,rfl,h9⟩ _
       refine Ar<|⟨_,z,?_⟩
       exact Aj z z<|A3 ty84 h9 (hC16.keep.then hB14) z z fun v9 h12=>Ac<|Ay (Al _ _) z z ⟨z,h12⟩
      exact Bp
     intro w17 hB15
     refine At z z z ?_
     rintro _ _ ⟨rfl,rfl⟩
     refine At z z z ?_
     rintro _ _ ⟨rfl,b7,o3,rfl,h5⟩
     refine At z z z ?_
     rintro v6 _ ⟨rfl,h8⟩
     obtain ⟨v5,rfl,h7⟩:=Cz h8
     refine At z z z ?_
     rintro _ _ ⟨rfl,rfl⟩
     refine At z z z ?_
     rintro _ _ ⟨rfl,rfl⟩
     refine At z z z ?_
     rintro _ _ ⟨rfl,b8,o4,rfl,h9⟩
     refine At z z z ?_
     rintro v9 _ ⟨rfl,h12⟩
     obtain ⟨v8,rfl,h11⟩:=Cc h12
     refine B0 fun hn2 hb2=>have hC17:=hC16.grow hB15;be hr4 fun x14 hr7 hr4=>oe 37 z<|Aj z z<|cb Tryz.call86 z z (c_M_CanCall x12 v5 (h7.now hC17.keep) x13 v8 (h11.now hC17.keep) x5 v1 ((hC17.ro 1 z).now (Aq _ _)) x14 hr7) fun w18 hB16=>have hC18:=hC17.grow hB16;Ac<|tg 38 z z z z (Cm z)<|Aj z z<|Bx z z<|Ac<|tq 39 z z z z<|dn<|?_
     obtain rfl:=Aa hr4
     exact Ak (l':=[(1,u2),(6,(ptr b1 0)),(9,(.slice (some ⟨b2,0,none⟩) (Int.toNat (List.length a3.2:Int)) (Int.toNat (List.length a3.2:Int)))),(10,v1),(12,(ptr b5 0)),(31,u5),(32,(I (List.length a4:Int))),(33,(I x6)),(76,(.bool (!x14)))]) ⟨z,z,z,z,z,z,z,z,z,Ai⟩<|⟨(!x14),z,z,((((((Ap hB9).then hB11).then hB12).then hB13).then hB15).then hB16).below,hC18⟩
    rintro _ w10 ⟨x8,rfl,rfl,hB8,hC12⟩
    try dsimp only at hL1
    refine AI z (fun hc7=>?_) (fun hc7=>?_)
    ·replace hL1:=AC hL1 hc7
     refine Ad<|Ae z z<|Ac<|AP<|Az<|Bk<|Az<|Az<|Bk<|Az<|Az<|?_
     obtain rfl:=Aa hL1
     dsimp only at hF
     obtain rfl:=Aa hF
     exact A8 z z<|⟨_,z,AR hC12 _⟩
    replace hL1:=AD hL1 hc7
    refine AJ<|Am<|Ad<|Ag z z<|fd AX AE z z z z<|Ao hC12 0 z z Bl z z<|be hL1 fun x15 hx6 hL1=>BV hC12 2 z BO ty4 hx6 z z z fun b9 hE1=>?_
    have hC20:=hC12.triv (BK (true))
    refine Cb hC20 2 z ty4 hE1 hx6 z z z (fun w19 hC19=>?_)
    try dsimp only [List.set] at hC19
    refine Ac<|Bb<|Ag z z<|fd A0 AU z z z z<|Ao hC19 3 z z Ba z z<|fd AX AE z z z z<|Ao hC19 0 z z Bl z z<|be hL1 fun x16 hx7 hL1=>AG Ax ty84 g4 hx7 z z z fun b10 o5 h13=>fd AB Aw z z z z<|A3 ty22 h13.snd hC19.keep z z fun v10 h14=>be hL1 fun x17 hx8 hL1=>Bi (α:=Int) hC19 1 z h14 hC19.keep Ah ty3 z hx8 z z z fun v11 w20 hC21=>?_
    try dsimp only [List.set] at hC21
    exact Ae z z<|Ac<|AM<|Am<|Bb<|Bj z z z<|Ag z z<|Ac<|have hC22:=hC21.f3;have hC23:=hC22.f3;have hC24:=hC23.f3;have hC25:=hC24.h3;Ak (l':=[(1,u2),(6,(ptr b1 0)),(9,(.slice (some ⟨b2,0,none⟩) (Int.toNat (List.length a3.2:Int)) (Int.toNat (List.length a3.2:Int)))),(10,v11),(31,u5),(32,(I (List.length a4:Int))),(33,(I (w64 (x6+1))))]) ⟨z,z,z,z,z,z,z,Ai⟩<|⟨k1,Av _,(List.set x4 (Int.toNat x7.1) true),v11,x17,w64 (x6+1),z,hC25,hL1⟩
   replace hL1:=AD hL1 hc3
   refine Bt (A1 (A1 (Be ?_)))
   obtain rfl:=Aa hL1
   have hC26:=hC9.h0
   exact Ak (l':=[]) Ai<|⟨z,z,hC26⟩
 rintro l4 _ w21 hs4 ⟨rfl,rfl,hC27⟩
 try dsimp only at hF
 refine AL hs4 ?_
 clear hs4
 refine Ad<|Ae z z<|Ac<|AP<|?_
 obtain rfl:=Aa hF
 exact A8 z z<|⟨_,z,AR hC27 _⟩
theorem c_M_meets_c1 {w0:World} (a1:Int) (pb1:Nat) (ax1:(List Int)) (g1:ROAt [] w0 pb1 0 ax1) (rr:Bool) (hF:M.meets_c1 a1 ax1=some rr) :
 Calls Tryz.prog 87 [(I a1),(ptr pb1 0)].toArray w0 fun e w'=>∃v,e=.returned v∧Res w0 rr v w':=by
 refine Au Tryz.func87 z z ?_
 have hC0:=AA w0
 unfold M.meets_c1 at hF
 refine Ad<|Ae z z<|Ac<|Ad<|A3 ty22 g1 hC0.keep z z fun v1 h1=>Ag z z<|be hF fun x1 hr1 hF=>cb CE z z (c_Slices_Contains_Lint_int ax1 v1 (h1.now hC0.keep) a1 x1 hr1) fun w1 hB1=>have hC1:=hC0.grow hB1;Ae z z<|Ac<|AP<|?_
 obtain rfl:=Aa hF
 exact A8 z z<|⟨_,z,AR hC1 _⟩
theorem c_Slices_IndexFunc_Lint_int_M_meets_c1 {w0:World} (a1:(List Int)) (u1:Value) (g1:RO [] w0 u1 a1) (pb1:Nat) (ax1:(List Int)) (g2:ROAt [] w0 pb1 0 ax1) (rr:Int) (hF:Slices.IndexFunc_Lint_int_M_meets_c1 a1 ax1=some rr) :
 Calls Tryz.prog 99 [u1,(.func (.func 87) #[] #[(ptr pb1 0)])].toArray w0 fun e w'=>∃v,e=.returned v∧Res w0 rr v w':=by
 refine Au Ce z z ?_
 have hC0:=AA w0
 unfold Slices.IndexFunc_Lint_int_M_meets_c1 at hF
 refine Ad<|Ae z z<|Ac<|A6<|Ad<|Ag z z<|AZ Ah g1 z z<|Ag z z<|Ac<|be hF fun r1 hr1 hF=>Bd (fun l w=>.inl ()=r1∧l=[]∧Below w0.heap.size w0 w∧Ctx [] w0 w []) ?_ ?_
 ·refine AH<|wS (l':=[(0,u1),(1,(.func (.func 87) #[] #[(ptr pb1 0)])),(7,(I (List.length a1:Int))),(8,(I 0))]) ⟨z,z,z,z,Ai⟩<|Bu (fun k l w=>∃x1:Int,l=[(0,u1),(1,(.func (.func 87) #[] #[(ptr pb1 0)])),(7,(I (List.length a1:Int))),(8,(I x1))]∧Below w0.heap.size w0 w∧Ctx [] w0 w []∧Slices.IndexFunc_Lint_int_M_meets_c1_l1 a1 ax1 k x1=some r1) FUEL ⟨0,z,(Al _ _),hC0,hr1⟩<|?_
  clear hr1
  rintro k1 _ w1 ⟨x1,rfl,hB1,hC1,hL1⟩
  cases k1 with
  | zero=>rw [Slices.IndexFunc_Lint_int_M_meets_c1_l1] at hL1; cases hL1
  | succ k1 =>
   rw [Slices.IndexFunc_Lint_int_M_meets_c1_l1] at hL1
   refine Ad<|Bo z z z<|Ac<|A6<|AI z (fun hc1=>?_) (fun hc1=>?_)
   ·replace hL1:=AC hL1 hc1
    refine AJ<|Am<|A6<|AH<|Ad<|Ag z z<|Ae z z<|Ac<|Ad<|Ag z z<|Ag z z<|Ag z z<|be hL1 fun x2 hx1 hL1=>AG Ah ty3 g1 hx1 z z z fun b1 o1 h1=>A3 ty3 h1 hC1.keep z z fun v1 h2=>?_
    obtain rfl:=Bn h2
    refine be hL1 fun x3 hr2 hL1=>BH (cap:=[(ptr pb1 0)]) Tryz.call87 z z z (c_M_meets_c1 x2 pb1 ax1 (g2.now hC1.keep) x3 hr2) fun _ w2 hv1=>?_
    obtain ⟨rfl,hB2⟩:=BJ hv1
    have hC2:=hC1.grow hB2
    refine Ac<|AI z (fun hc2=>?_) (fun hc2=>?_)
    ·replace hL1:=AC hL1 hc2
     refine Ad<|Ag z z<|Ae z z<|Ac<|AP<|Bk<|Az<|Az<|Bk<|Az<|Az<|?_
     obtain rfl:=Aa hL1
     dsimp only at hF
     obtain rfl:=Aa hF
     exact A8 z z<|⟨_,z,B5 hC2 _⟩
    replace hL1:=AD hL1 hc2
    exact AJ<|AM<|Am<|Bb<|Bj z z z<|Ag z z<|Ac<|Ak (l':=[(0,u1),(1,(.func (.func 87) #[] #[(ptr pb1 0)])),(7,(I (List.length a1:Int))),(8,(I (w64 (x1+1))))]) ⟨z,z,z,z,Ai⟩<|⟨k1,Av _,w64 (x1+1),z,((Ap hB1).then hB2).below,hC2,hL1⟩
   replace hL1:=AD hL1 hc1
   refine Bt (A1 (A1 (Be ?_)))
   obtain rfl:=Aa hL1
   exact Ak (l':=[]) Ai<|⟨z,z,(Ap hB1).below,hC1⟩
 rintro l2 _ w3 hs2 ⟨rfl,rfl,hB3,hC3⟩
 try dsimp only at hF
 refine AL hs2 ?_
 clear hs2
 refine Ad<|Ae z z<|Ac<|AP<|?_
 obtain rfl:=Aa hF
 exact A8 z z<|⟨_,z,B5 hC3 _⟩
theorem c_Slices_ContainsFunc_Lint_int_M_meets_c1 {w0:World} (a1:(List Int)) (u1:Value) (g1:RO [] w0 u1 a1) (pb1:Nat) (ax1:(List Int)) (g2:ROAt [] w0 pb1 0 ax1) (rr:Bool) (hF:Slices.ContainsFunc_Lint_int_M_meets_c1 a1 ax1=some rr) :
 Calls Tryz.prog 71 [u1,(.func (.func 87) #[] #[(ptr pb1 0)])].toArray w0 fun e w'=>∃v,e=.returned v∧Res w0 rr v w':=by
 refine Au Cr z z ?_
 have hC0:=AA w0
 unfold Slices.ContainsFunc_Lint_int_M_meets_c1 at hF
 refine Ad<|Ae z z<|Ac<|Ad<|Ag z z<|Ag z z<|be hF fun x1 hr1 hF=>ci Cf z z (c_Slices_IndexFunc_Lint_int_M_meets_c1 a1 u1 (g1.now hC0.keep) pb1 ax1 (g2.now hC0.keep) x1 hr1) fun w1 hB1=>have hC1:=hC0.grow hB1;Cq z z z<|Ae z z<|Ac<|AP<|?_
 obtain rfl:=Aa hF
 exact A8 z z<|⟨_,z,AR hC1 _⟩
theorem c_M_meets {w0:World} (a1:(List Int)) (u1:Value) (g1:RO [] w0 u1 a1) (a2:(List Int)) (u2:Value) (g2:RO [] w0 u2 a2) (rr:Bool) (hF:M.meets a1 a2=some rr) :
 Calls Tryz.prog 49 [u1,u2].toArray w0 fun e w'=>∃v,e=.returned v∧Res w0 rr v w':=by
 refine Au Tryz.func49 z z ?_
 have hC0:=AA w0
 unfold M.meets at hF
 refine Ad<|Bv (cs:=[u2]) hC0 (Cj g2) z z fun b1 w1 hC1 hB1 hN1=>Ae z z<|Ac<|Ad<|Ag z z<|BL z z<|be hF fun x1 hr1 hF=>cb Cs z z (c_Slices_ContainsFunc_Lint_int_M_meets_c1 a1 u1 (g1.now hC1.keep) b1 a2 (hC1.boxAt 0 z (repw_slice (g2.now hC1.keep))) x1 hr1) fun w2 hB2=>have hC2:=hC1.grow hB2;Ae z z<|Ac<|AP<|?_
 obtain rfl:=Aa hF
 exact A8 z z<|⟨_,z,AR hC2 _⟩
theorem c_M_IsPrivateOrder {w0:World} (a1:(List Int)) (u1:Value) (g1:RO [] w0 u1 a1) (a2:(List (Int × (List Int) × Int × Int × Int))) (u2:Value) (g2:RO [] w0 u2 a2) (a3:((List Int) × (List (Int × (List Int))))) (u3:Value) (g3:RO [] w0 u3 a3.1) (u4:Value) (g4:RO [] w0 u4 a3.2) (a4:(List (Int × Int))) (u5:Value) (g5:RO [] w0 u5 a4) (a5:(List Int)) (u6:Value) (g6:RO [] w0 u6 a5) (rr:Bool) (hF:M.IsPrivateOrder a1 a2 a3 a4 a5=some rr) :
 Calls Tryz.prog 15 [u1,u2,(.agg #[u3,u4]),u5,u6].toArray w0 fun e w'=>∃v,e=.returned v∧Res w0 rr v w':=by
 refine Au Tryz.func15 z z ?_
 have hC0:=AA w0
 unfold M.IsPrivateOrder at hF
 refine Ad<|Bv (cs:=[u3,u4]) hC0 z z z fun b1 w1 hC1 hB1 hN1=>Ae z z<|Ac<|be hF fun r1 hr1 hF=>BA (fun l w=>∃x1:Bool,x1=r1∧l=[(10,(.bool x1))]∧Below w1.heap.size w1 w∧Ctx [] w0 w []) ?_ ?_
 ·refine Bb<|Ag z z<|Ag z z<|A9 [u3,u4] hC1 0 z z z AT A4 z z<|Ag z z<|be hr1 fun x2 hr2 hr1=>cb Tryz.call48 z z (c_M_IsOrder a1 u1 (g1.now hC1.keep) a2 u2 (g2.now hC1.keep) (a3.1,a3.2) u3 (g3.now hC1.keep) u4 (g4.now hC1.keep) a4 u5 (g5.now hC1.keep) x2 hr2) fun w3 hB3=>have hC3:=hC1.grow hB3;Ag z z<|Br (fun hc1=>?_) (fun hc1=>?_)
  ·replace hr1:=AC hr1 hc1
   refine Aj z z<|Ag z z<|Aj z z<|A9 [u3,u4] hC3 0 z z z AT A4 z z<|Aj z z<|Ag z z<|be hr1 fun x3 hr3 hr1=>Aj z z<|A7 Tryz.call38 z z (c_M_Disclosed a2 u2 (g2.now hC3.keep) (a3.1,a3.2) u3 (g3.now hC3.keep) u4 (g4.now hC3.keep) a4 u5 (g5.now hC3.keep) x3 hr3)<|?_
   rintro v1 w4 ⟨hB4,F1,hv2,hn1,hb1⟩
   have hC4:=hC3.push hB4 (A:=Ab v1 x3) hv2 hn1 hb1
   refine Aj z z<|Ag z z<|be hr1 fun x4 hr4 hr1=>Aj z z<|cb Tryz.call49 z z (c_M_meets x3 v1 ((hC4.ro 0 z).now (Aq _ _)) a5 u6 (g6.now hC4.keep) x4 hr4) fun w5 hB5=>have hC5:=hC4.grow hB5;Aj z z<|Bx z z<|AV z z z<|Ae z z<|Ac<|?_
   obtain rfl:=Aa hr1
   have hC6:=hC5.h0
   exact Ak (l':=[(10,(.bool (!x4)))]) ⟨z,Ai⟩<|⟨(!x4),z,z,(((Ap hB3).then hB4).then hB5).below,hC6⟩
  replace hr1:=AD hr1 hc1
  refine gs z z z z<|gs z z z z<|gs z z z z<|gs z z z z<|gs z z z z<|gs z z z z<|gs z z z z<|AS z z z<|Ae z z<|Ac<|?_
  obtain rfl:=Aa hr1
  have hC7:=hC3.h0
  exact Ak (l':=[(10,(.bool false))]) ⟨z,Ai⟩<|⟨false,z,z,(Ap hB3).below,hC7⟩
 rintro _ w2 ⟨x1,rfl,rfl,hB2,hC2⟩
 try dsimp only at hF
 refine AP ?_
 obtain rfl:=Aa hF
 exact A8 z z<|⟨_,z,AR hC2 _⟩
theorem c_S_FindPrivateOrder {w0:World} (a1:(List Int)) (u1:Value) (g1:RO [] w0 u1 a1) (a2:(List (Int × (List Int) × Int × Int × Int))) (u2:Value) (g2:RO [] w0 u2 a2) (a3:((List Int) × (List (Int × (List Int))))) (u3:Value) (g3:RO [] w0 u3 a3.1) (u4:Value) (g4:RO [] w0 u4 a3.2) (a4:(List Int)) (u5:Value) (g5:RO [] w0 u5 a4) (rr:((List (Int × Int)) × Bool)) (hF:S.FindPrivateOrder a1 a2 a3 a4=some rr) :
 Calls Tryz.prog 20 [u1,u2,(.agg #[u3,u4]),u5].toArray w0 fun e w'=>∃v,e=.returned v∧Res2 w0 rr.1 rr.2 v w':=by
 refine Au Tryz.func20 z z ?_
 have hC0:=AA w0
 unfold S.FindPrivateOrder at hF
 refine Ad<|Bv (cs:=[u3,u4]) hC0 z z z fun b1 w1 hC1 hB1 hN1=>Ae z z<|Ae z z<|Ac<|Ad<|A2 (vs:=[]) hC1 A5 ty75 z z z z (by simp) z z fun b2 w2 hC2 hB2=>?_
 have hC3:=hC2.row0 (α:=(Int × Int))
 have hC4:=hC3.front 1 z
 dsimp only [List.eraseIdx,List.cons_append,List.nil_append,List.append_nil] at hC4
 have hC5:Ctx [] w0 w2 (Ab (.slice (some ⟨b2,0,none⟩) 0 0) (([]:List (Int × Int)):List (Int × Int))::[Af b1 [u3,u4]]):=hC4.rowOwn (by simp [maxLen])
 refine Ae z z<|Ac<|A6<|Ad<|Ag z z<|Ag z z<|A9 [u3,u4] hC5 1 z z z AT A4 z z<|be hF fun x1 hr1 hF=>cb CD z z (c_S_l6Fine a1 u1 (g1.now hC5.keep) a2 u2 (g2.now hC5.keep) (a3.1,a3.2) u3 (g3.now hC5.keep) u4 (g4.now hC5.keep) x1 hr1) fun w3 hB3=>have hC6:=hC5.grow hB3;Bx z z<|Ac<|AI z (fun hc1=>?_) (fun hc1=>?_)
 ·replace hF:=AC hF hc1
  refine Ad<|Ag z z<|Ae z z<|Ae z z<|Ac<|AP<|Az<|?_
  obtain rfl:=Aa hF
  refine Cd z z z ?_
  have hC7:=hC6.triv (BK (false))
  have hC8:=hC7.f1
  exact ⟨_,z,res2_of hC8⟩
 replace hF:=AD hF hc1
 refine AJ<|Am<|Ad<|A2 (vs:=[]) hC6 Ah ty3 z z z z (by simp) z z fun b3 w4 hC9 hB4=>?_
 have hC10:=hC9.row0 (α:=Int)
 have hC11:=hC10.front 1 z
 dsimp only [List.eraseIdx,List.cons_append,List.nil_append,List.append_nil] at hC11
 have hC12:Ctx [] w0 w4 (Ab (.slice (some ⟨b3,0,none⟩) 0 0) (([]:List Int):List Int)::[Ab (.slice (some ⟨b2,0,none⟩) 0 0) (([]:List (Int × Int)):(List (Int × Int))),Af b1 [u3,u4]]):=hC11.rowOwn (by simp [maxLen])
 refine Ae z z<|Ac<|Ad<|A2 (vs:=[]) hC12 Ah ty3 z z z z (by simp) z z fun b4 w5 hC13 hB5=>?_
 have hC14:=hC13.row0 (α:=Int)
 have hC15:=hC14.front 1 z
 dsimp only [List.eraseIdx,List.cons_append,List.nil_append,List.append_nil] at hC15
 have hC16:Ctx [] w0 w5 (Ab (.slice (some ⟨b4,0,none⟩) 0 0) (([]:List Int):List Int)::[Ab (.slice (some ⟨b3,0,none⟩) 0 0) (([]:List Int):(List Int)),Ab (.slice (some ⟨b2,0,none⟩) 0 0) (([]:List (Int × Int)):(List (Int × Int))),Af b1 [u3,u4]]):=hC15.rowOwn (by simp [maxLen])
 refine Ae z z<|Ac<|A6<|Ad<|Ae z z<|Ac<|be hF fun r1 hr2 hF=>Bd (fun l w=>∃v4:Value,∃x6:(List (Int × Int)),.inl x6=r1∧l=[(10,v4)]∧Ctx [] w0 w [Ab v4 (x6:(List (Int × Int)))]) ?_ ?_
 ·refine AH<|wS (l':=[(1,u2),(3,u5),(6,(ptr b1 0)),(10,(.slice (some ⟨b2,0,none⟩) 0 0)),(11,(.slice (some ⟨b3,0,none⟩) 0 0)),(12,(.slice (some ⟨b4,0,none⟩) 0 0)),(13,(I 0))]) ⟨z,z,z,z,z,z,z,Ai⟩<|Bu (fun k l w=>∃v1:Value,∃x2:(List (Int × Int)),∃v2:Value,∃x3:(List Int),∃v3:Value,∃x4:(List Int),∃x5:Int,l=[(1,u2),(3,u5),(6,(ptr b1 0)),(10,v1),(11,v2),(12,v3),(13,(I x5))]∧Ctx [] w0 w [Ab v3 (x4:(List Int)),Ab v2 (x3:(List Int)),Ab v1 (x2:(List (Int × Int))),Af b1 [u3,u4]]∧S.FindPrivateOrder_l1 a3 a2 a4 k x2 x3 x4 x5=some r1) FUEL ⟨(.slice (some ⟨b2,0,none⟩) 0 0),([]:List (Int × Int)),(.slice (some ⟨b3,0,none⟩) 0 0),([]:List Int),(.slice (some ⟨b4,0,none⟩) 0 0),([]:List Int),0,z,hC16,hr2⟩<|?_
  clear hr2
  rintro k1 _ w6 ⟨v1,x2,v2,x3,v3,x4,x5,rfl,hC17,hL1⟩
  cases k1 with
  | zero=>rw [S.FindPrivateOrder_l1] at hL1; cases hL1
  | succ k1 =>
   rw [S.FindPrivateOrder_l1] at hL1
   refine A6<|Ad<|Ag z z<|fd A0 AU z z z z<|Ao hC17 3 z z Ba z z<|AZ Ax g4 z z<|Bo z z z<|Ac<|AI z (fun hc2=>?_) (fun hc2=>?_)
   ·replace hL1:=AC hL1 hc2
    refine AJ<|Am<|A6<|AH<|Ad<|Ae z z<|Ac<|A6<|Ad<|Ae z z<|Ac<|be hL1 fun r2 hr3 hL1=>Bd (fun l w=>∃v8:Value,∃x12:(List (Int × Int)),∃v9:Value,∃x13:(List Int),∃v10:Value,∃x14:(List Int),∃x15:Bool,(x12,x13,x14,x15)=r2∧l=[(1,u2),(3,u5),(6,(ptr b1 0)),(10,v8),(11,v9),(12,v10),(13,(I x5)),(14,(.bool x15))]∧Ctx [] w0 w [Ab v10 (x14:(List Int)),Ab v9 (x13:(List Int)),Ab v8 (x12:(List (Int × Int))),Af b1 [u3,u4]]) ?_ ?_
    ·refine AH<|wS (l':=[(1,u2),(3,u5),(6,(ptr b1 0)),(10,v1),(11,v2),(12,v3),(13,(I x5)),(14,(.bool false)),(15,(I 0))]) ⟨z,z,z,z,z,z,z,z,z,Ai⟩<|Bu (fun k l w=>∃v5:Value,∃x7:(List (Int × Int)),∃v6:Value,∃x8:(List Int),∃v7:Value,∃x9:(List Int),∃x10:Bool,∃x11:Int,l=[(1,u2),(3,u5),(6,(ptr b1 0)),(10,v5),(11,v6),(12,v7),(13,(I x5)),(14,(.bool x10)),(15,(I x11))]∧Ctx [] w0 w [Ab v7 (x9:(List Int)),Ab v6 (x8:(List Int)),Ab v5 (x7:(List (Int × Int))),Af b1 [u3,u4]]∧S.FindPrivateOrder_l2 a3 a2 a4 k x7 x8 x9 x10 x11=some r2) FUEL ⟨v1,x2,v2,x3,v3,x4,false,0,z,hC17,hr3⟩<|?_
     clear hr3
     rintro k2 _ w7 ⟨v5,x7,v6,x8,v7,x9,x10,x11,rfl,hC18,hL2⟩
     cases k2 with
     | zero=>rw [S.FindPrivateOrder_l2] at hL2; cases hL2
     | succ k2 =>
      rw [S.FindPrivateOrder_l2] at hL2
      refine A6<|be hL2 fun r3 hr4 hL2=>BA (fun l w=>∃x16:Bool,x16=r3∧l=[(1,u2),(3,u5),(6,(ptr b1 0)),(10,v5),(11,v6),(12,v7),(13,(I x5)),(14,(.bool x10)),(15,(I x11)),(41,(.bool x16))]∧Below w7.heap.size w7 w∧Ctx [] w0 w [Ab v7 (x9:(List Int)),Ab v6 (x8:(List Int)),Ab v5 (x7:(List (Int × Int))),Af b1 [u3,u4]]) ?_ ?_
      ·refine Bb<|Ag z z<|fd A0 AU z z z z<|Ao hC18 3 z z Ba z z<|AZ Ax g4 z z<|Bo z z z<|Ag z z<|Br (fun hc3=>?_) (fun hc3=>?_)
       ·replace hr4:=AC hr4 hc3
        refine Aj z z<|Ag z z<|Aj z z<|Bx z z<|AV z z z<|Ac<|?_
        obtain rfl:=Aa hr4
        exact Ak (l':=[(1,u2),(3,u5),(6,(ptr b1 0)),(10,v5),(11,v6),(12,v7),(13,(I x5)),(14,(.bool x10)),(15,(I x11)),(41,(.bool (!x10)))]) ⟨z,z,z,z,z,z,z,z,z,z,Ai⟩<|⟨(!x10),z,z,(Al _ _),hC18⟩
       replace hr4:=AD hr4 hc3
       refine gs z z z z<|gs z z z z<|AS z z z<|Ac<|?_
       obtain rfl:=Aa hr4
       exact Ak (l':=[(1,u2),(3,u5),(6,(ptr b1 0)),(10,v5),(11,v6),(12,v7),(13,(I x5)),(14,(.bool x10)),(15,(I x11)),(41,(.bool false))]) ⟨z,z,z,z,z,z,z,z,z,z,Ai⟩<|⟨false,z,z,(Al _ _),hC18⟩
      rintro _ w9 ⟨x16,rfl,rfl,hB8,hC19⟩
      try dsimp only at hL2
      refine AI z (fun hc4=>?_) (fun hc4=>?_)
      ·replace hL2:=AC hL2 hc4
       refine AJ<|Am<|A6<|AH<|Ad<|Ae z z<|Ac<|be hL2 fun r4 hr5 hL2=>Bd (fun l w=>∃v14:Value,∃x22:(List (Int × Int)),∃v15:Value,∃x23:(List Int),∃v16:Value,∃x24:(List Int),∃x25:Bool,(x22,x23,x24,x25)=r4∧l=[(1,u2),(3,u5),(6,(ptr b1 0)),(10,v14),(11,v15),(12,v16),(13,(I x5)),(14,(.bool x25)),(15,(I x11))]∧Ctx [] w0 w [Ab v16 (x24:(List Int)),Ab v15 (x23:(List Int)),Ab v14 (x22:(List (Int × Int))),Af b1 [u3,u4]]) ?_ ?_
       ·refine AH<|wS (l':=[(1,u2),(3,u5),(6,(ptr b1 0)),(10,v5),(11,v6),(12,v7),(13,(I x5)),(14,(.bool x10)),(15,(I x11)),(16,(I 0))]) ⟨z,z,z,z,z,z,z,z,z,z,Ai⟩<|Bu (fun k l w=>∃v11:Value,∃x17:(List (Int × Int)),∃v12:Value,∃x18:(List Int),∃v13:Value,∃x19:(List Int),∃x20:Bool,∃x21:Int,l=[(1,u2),(3,u5),(6,(ptr b1 0)),(10,v11),(11,v12),(12,v13),(13,(I x5)),(14,(.bool x20)),(15,(I x11)),(16,(I x21))]∧Ctx [] w0 w [Ab v13 (x19:(List Int)),Ab v12 (x18:(List Int)),Ab v11 (x17:(List (Int × Int))),Af b1 [u3,u4]]∧S.FindPrivateOrder_l3 a2 x11 a3 a4 k x17 x18 x19 x20 x21=some r4) FUEL ⟨v5,x7,v6,x8,v7,x9,x10,0,z,hC19,hr5⟩<|?_
        clear hr5
        rintro k3 _ w10 ⟨v11,x17,v12,x18,v13,x19,x20,x21,rfl,hC20,hL3⟩
        cases k3 with
        | zero=>rw [S.FindPrivateOrder_l3] at hL3; cases hL3
        | succ k3 =>
         rw [S.FindPrivateOrder_l3] at hL3
         refine A6<|be hL3 fun r5 hr6 hL3=>BA (fun l w=>∃x26:Bool,x26=r5∧l=[(1,u2),(3,u5),(6,(ptr b1 0)),(10,v11),(11,v12),(12,v13),(13,(I x5)),(14,(.bool x20)),(15,(I x11)),(16,(I x21)),(57,(.bool x26))]∧Below w10.heap.size w10 w∧Ctx [] w0 w [Ab v13 (x19:(List Int)),Ab v12 (x18:(List Int)),Ab v11 (x17:(List (Int × Int))),Af b1 [u3,u4]]) ?_ ?_
         ·refine Bb<|Ag z z<|Ag z z<|AZ Bc g2 z z<|Bo z z z<|Ag z z<|Br (fun hc5=>?_) (fun hc5=>?_)
          ·replace hr6:=AC hr6 hc5
           refine Aj z z<|Ag z z<|Aj z z<|Bx z z<|AV z z z<|Ag z z<|Br (fun hc6=>?_) (fun hc6=>?_)
           ·replace hr6:=AC hr6 hc6
            refine Aj z z<|Ag z z<|Aj z z<|Ag z z<|be hr6 fun x27 hr7 hr6=>Aj z z<|cb Cl z z (c_S_l2Has x19 v13 ((hC20.ro 0 z).now (Aq _ _)) x11 x27 hr7) fun w12 hB11=>have hC22:=hC20.grow hB11;Aj z z<|Bx z z<|AV z z z<|Ac<|?_
            obtain rfl:=Aa hr6
            exact Ak (l':=[(1,u2),(3,u5),(6,(ptr b1 0)),(10,v11),(11,v12),(12,v13),(13,(I x5)),(14,(.bool x20)),(15,(I x11)),(16,(I x21)),(57,(.bool (!x27)))]) ⟨z,z,z,z,z,z,z,z,z,z,z,Ai⟩<|⟨(!x27),z,z,(Ap hB11).below,hC22⟩
           replace hr6:=AD hr6 hc6
           refine gs z z z z<|gs z z z z<|gs z z z z<|gs z z z z<|AS z z z<|Ac<|?_
           obtain rfl:=Aa hr6
           exact Ak (l':=[(1,u2),(3,u5),(6,(ptr b1 0)),(10,v11),(11,v12),(12,v13),(13,(I x5)),(14,(.bool x20)),(15,(I x11)),(16,(I x21)),(57,(.bool false))]) ⟨z,z,z,z,z,z,z,z,z,z,z,Ai⟩<|⟨false,z,z,(Al _ _),hC20⟩
          replace hr6:=AD hr6 hc5
          refine gs z z z z<|gs z z z z<|AS z z z<|Ag z z<|gs z z z z<|gs z z z z<|gs z z z z<|gs z z z z<|AS z z z<|Ac<|?_
          obtain rfl:=Aa hr6
          exact Ak (l':=[(1,u2),(3,u5),(6,(ptr b1 0)),(10,v11),(11,v12),(12,v13),(13,(I x5)),(14,(.bool x20)),(15,(I x11)),(16,(I x21)),(57,(.bool false))]) ⟨z,z,z,z,z,z,z,z,z,z,z,Ai⟩<|⟨false,z,z,(Al _ _),hC20⟩
         rintro _ w11 ⟨x26,rfl,rfl,hB10,hC21⟩
         try dsimp only at hL3
         refine AI z (fun hc7=>?_) (fun hc7=>?_)
         ·replace hL3:=AC hL3 hc7
          refine AJ<|Am<|A6<|AH<|be hL3 fun r6 hr8 hL3=>BA (fun l w=>∃x28:Bool,x28=r6∧l=[(1,u2),(3,u5),(6,(ptr b1 0)),(10,v11),(11,v12),(12,v13),(13,(I x5)),(14,(.bool x20)),(15,(I x11)),(16,(I x21)),(85,(.bool x28))]∧Below w11.heap.size w11 w∧Ctx [] w0 w [Ab v13 (x19:(List Int)),Ab v12 (x18:(List Int)),Ab v11 (x17:(List (Int × Int))),Af b1 [u3,u4]]) ?_ ?_
          ·refine B1 26 z hmix fun w14 hB13=>have hC24:=hC21.grow hB13;tm 0 z z z<|tm 1 z z z<|be hr8 fun x29 hx1 hr8=>tk 2 z z (B4 Bc ty71 g2 hx1 z z)<|AG Bc ty71 g2 hx1 z z z fun b5 o1 h1=>Ac<|tf 4 A0 AU z z z z z<|tm 6 z z z<|tm 9 z z z<|be hr8 fun x30 hx2 hr8=>wAS (l':=[(1,u2),(3,u5),(6,(ptr b1 0)),(10,v11),(11,v12),(12,v13),(13,(I x5)),(14,(.bool x20)),(15,(I x11)),(16,(I x21)),(57,(.bool x26)),(60,u2),(61,(I x21)),(62,(ptr b5 o1)),(64,(ptr b1 1)),(66,(I x11)),(69,v12)]) ⟨z,z,z,z,z,z,z,z,z,z,z,z,z,z,z,z,z,Ai⟩<|Bw [⟨3,[],fun vs=>Ct [] w0 x29,[]⟩,⟨5,[],fun vs=>Bh u4,[]⟩,⟨7,[],fun vs=>Ci [] w0 x30,[]⟩,⟨8,[],fun vs=>Ct [] w0 x30,[]⟩] [[],[],[5],[7]] 16 z (by kernel_rfl) (by kernel_rfl) z ?_ ?_
           ·refine An z ?_ ?_
            ·intro w15 hB14
             refine Ar<|⟨_,z,?_⟩
             exact A3 ty71 h1 (hC24.keep.then hB14) z z fun v19 h4=>Ac<|Ay (Al _ _) z z ⟨z,h4⟩
            refine An z ?_ ?_
            ·intro w15 hB14
             refine Ar<|⟨_,z,?_⟩
             exact Ao (hC24.grow hB14) 3 z z Ba z z<|Ac<|Ay (Al _ _) z z ⟨z,z⟩
            refine An z ?_ ?_
            ·intro w15 hB14
             refine AK z z z ?_
             rintro _ _ ⟨rfl,rfl⟩ _
             refine Ar<|⟨_,z,?_⟩
             exact AG Ax ty84 g4 hx2 z z z fun b6 o2 h5=>Ac<|Ay (Al _ _) z z ⟨z,_,_,z,h5⟩
            refine An z ?_ ?_
            ·intro w15 hB14
             refine AK z z z ?_
             rintro _ _ ⟨rfl,b6,o2,rfl,h5⟩ _
             refine Ar<|⟨_,z,?_⟩
             exact A3 ty84 h5 (hC24.keep.then hB14) z z fun v22 h8=>Ac<|Ay (Al _ _) z z ⟨z,h8⟩
            exact Bp
           intro w16 hB15
           refine At z z z ?_
           rintro v19 _ ⟨rfl,h4⟩
           obtain ⟨v18,rfl,h3⟩:=Cz h4
           refine At z z z ?_
           rintro _ _ ⟨rfl,rfl⟩
           refine At z z z ?_
           rintro _ _ ⟨rfl,b6,o2,rfl,h5⟩
           refine At z z z ?_
           rintro v22 _ ⟨rfl,h8⟩
           obtain ⟨v21,rfl,h7⟩:=Cc h8
           refine B0 fun hn1 hb1=>have hC25:=hC24.grow hB15;be hr8 fun x31 hr9 hr8=>oe 10 z<|cb Tryz.call55 z z (c_S_CanCall x29 v18 (h3.now hC25.keep) x30 v21 (h7.now hC25.keep) x18 v12 ((hC25.ro 1 z).now (Aq _ _)) x31 hr9) fun w17 hB16=>have hC26:=hC25.grow hB16;Ac<|tm 11 z z z<|BQ (fun hc8=>?_) (fun hc8=>?_)
           ·replace hr8:=AC hr8 hc8
            refine tn 12 z z z z z<|tn 13 z z z z z<|be hr8 fun x32 hx3 hr8=>tg 14 z z z z (B4 Bc ty71 g2 hx3 z z)<|Aj z z<|AG Bc ty71 g2 hx3 z z z fun b7 o3 h9=>Ac<|tg 16 z z z z (BC A0 z z (fun w=>⟨_,AU w⟩) z)<|Aj z z<|fd A0 AU z z z z<|Ac<|tn 18 z z z z z<|tn 22 z z z z z<|be hr8 fun x33 hx4 hr8=>wAS (l':=[(1,u2),(3,u5),(6,(ptr b1 0)),(10,v11),(11,v12),(12,v13),(13,(I x5)),(14,(.bool x20)),(15,(I x11)),(16,(I x21)),(57,(.bool x26)),(60,u2),(61,(I x21)),(62,(ptr b5 o1)),(63,(.agg #[(I x29.1),v18,(I x29.2.2.1),(I x29.2.2.2.1),(I x29.2.2.2.2)])),(64,(ptr b1 1)),(65,u4),(66,(I x11)),(67,(ptr b6 o2)),(68,(.agg #[(I x30.1),v21])),(69,v12),(70,(.bool x31)),(71,(.bool true)),(72,u2),(73,(I x21)),(74,(ptr b7 o3)),(76,(ptr b1 1)),(78,(I x11)),(82,u5)]) ⟨z,z,z,z,z,z,z,z,z,z,z,z,z,z,z,z,z,z,z,z,z,z,z,z,z,z,z,z,z,Ai⟩<|Bw [⟨15,[],fun vs=>Ct [] w0 x32,[]⟩,⟨17,[],fun vs=>Bh u4,[]⟩,⟨19,[],fun vs=>Ci [] w0 x33,[]⟩,⟨20,[],fun vs=>Ct [] w0 x33,[]⟩] [[],[],[17],[19]] 4 z (by kernel_rfl) (by kernel_rfl) z ?_ ?_
            ·refine An z ?_ ?_
             ·intro w18 hB17
              refine Ar<|⟨_,z,?_⟩
              exact Aj z z<|A3 ty71 h9 (hC26.keep.then hB17) z z fun v25 h12=>Ac<|Ay (Al _ _) z z ⟨z,h12⟩
             refine An z ?_ ?_
             ·intro w18 hB17
              refine Ar<|⟨_,z,?_⟩
              exact Aj z z<|Ao (hC26.grow hB17) 3 z z Ba z z<|Ac<|Ay (Al _ _) z z ⟨z,z⟩
             refine An z ?_ ?_
             ·intro w18 hB17
              refine AK z z z ?_
              rintro _ _ ⟨rfl,rfl⟩ _
              refine Ar<|⟨_,z,?_⟩
              exact Aj z z<|AG Ax ty84 g4 hx4 z z z fun b8 o4 h13=>Ac<|Ay (Al _ _) z z ⟨z,_,_,z,h13⟩
             refine An z ?_ ?_
             ·intro w18 hB17
              refine AK z z z ?_
              rintro _ _ ⟨rfl,b8,o4,rfl,h13⟩ _
              refine Ar<|⟨_,z,?_⟩
              exact Aj z z<|A3 ty84 h13 (hC26.keep.then hB17) z z fun v28 h16=>Ac<|Ay (Al _ _) z z ⟨z,h16⟩
             exact Bp
            intro w19 hB18
            refine At z z z ?_
            rintro v25 _ ⟨rfl,h12⟩
            obtain ⟨v24,rfl,h11⟩:=Cz h12
            refine At z z z ?_
            rintro _ _ ⟨rfl,rfl⟩
            refine At z z z ?_
            rintro _ _ ⟨rfl,b8,o4,rfl,h13⟩
            refine At z z z ?_
            rintro v28 _ ⟨rfl,h16⟩
            obtain ⟨v27,rfl,h15⟩:=Cc h16
            refine B0 fun hn2 hb2=>have hC27:=hC26.grow hB18;be hr8 fun x34 hr10 hr8=>oe 21 z<|Aj z z<|A7 Tryz.call56 z z (c_S_l30Passed x32 v24 (h11.now hC27.keep) x33 v27 (h15.now hC27.keep) x34 hr10)<|?_
            rintro v29 w20 ⟨hB19,F1,hv4,hn3,hb3⟩
            have hC28:=hC27.push hB19 (A:=Ab v29 x34) hv4 hn3 hb3
            refine Ac<|be hr8 fun x35 hr11 hr8=>oe 23 z<|Aj z z<|cb Tryz.call44 z z (c_S_l30Meets x34 v29 ((hC28.ro 0 z).now (Aq _ _)) a4 u5 (g5.now hC28.keep) x35 hr11) fun w21 hB20=>have hC29:=hC28.grow hB20;Ac<|tg 24 z z z z (Cm z)<|Aj z z<|Bx z z<|Ac<|tp 25 z z z z<|dn<|?_
            obtain rfl:=Aa hr8
            have hC30:=hC29.f4
            have hC31:=hC30.f4
            have hC32:=hC31.f4
            have hC33:=hC32.f4
            have hC34:=hC33.h4
            exact Ak (l':=[(1,u2),(3,u5),(6,(ptr b1 0)),(10,v11),(11,v12),(12,v13),(13,(I x5)),(14,(.bool x20)),(15,(I x11)),(16,(I x21)),(85,(.bool (!x35)))]) ⟨z,z,z,z,z,z,z,z,z,z,z,Ai⟩<|⟨(!x35),z,z,((((((Ap hB13).then hB15).then hB16).then hB18).then hB19).then hB20).below,hC34⟩
           replace hr8:=AD hr8 hc8
           refine sk 12 z z z z z<|sk 13 z z z z z<|sk 14 z z z z z<|sk 15 z z z z z<|sk 16 z z z z z<|sk 17 z z z z z<|sk 18 z z z z z<|sk 19 z z z z z<|sk 20 z z z z z<|sk 21 z z z z z<|sk 22 z z z z z<|sk 23 z z z z z<|sk 24 z z z z z<|tq 25 z z z z<|dn<|?_
           obtain rfl:=Aa hr8
           exact Ak (l':=[(1,u2),(3,u5),(6,(ptr b1 0)),(10,v11),(11,v12),(12,v13),(13,(I x5)),(14,(.bool x20)),(15,(I x11)),(16,(I x21)),(85,(.bool false))]) ⟨z,z,z,z,z,z,z,z,z,z,z,Ai⟩<|⟨false,z,z,(((Ap hB13).then hB15).then hB16).below,hC26⟩
          rintro _ w13 ⟨x28,rfl,rfl,hB12,hC23⟩
          try dsimp only at hL3
          refine be hL3 fun r7 hr12 hL3=>Bd (fun l w=>∃v30:Value,∃x36:(List (Int × Int)),∃v31:Value,∃x37:(List Int),∃v32:Value,∃x38:(List Int),∃x39:Bool,(x36,x37,x38,x39)=r7∧l=[(1,u2),(3,u5),(6,(ptr b1 0)),(10,v30),(11,v31),(12,v32),(13,(I x5)),(14,(.bool x39)),(15,(I x11)),(16,(I x21))]∧Ctx [] w0 w [Ab v32 (x38:(List Int)),Ab v31 (x37:(List Int)),Ab v30 (x36:(List (Int × Int))),Af b1 [u3,u4]]) ?_ ?_
          ·refine AI z (fun hc9=>?_) (fun hc9=>?_)
           ·replace hr12:=AC hr12 hc9
            refine Ad<|Ag z z<|Ag z z<|Ag z z<|Ck (vs:=[(0,(I x11)),(1,(I x21))]) z z z (built75_0_1 z z)<|A2 (vs:=[(.agg #[(I x11),(I x21)])]) hC23 A5 ty75 z z z z (fac z<|fa0) z z fun b9 w23 hC36 hB22=>?_
            have hC37:=hC36.row0 (α:=(Int × Int))
            have hC38:=C5 x11 x21 hC37
            have hC39:=hC38.row1
            have hC40:=hC39.front 1 z
            dsimp only [List.eraseIdx,List.cons_append,List.nil_append,List.append_nil] at hC40
            have hC41:Ctx [] w0 w23 (Ab (.slice (some ⟨b9,0,none⟩) 1 1) ([(x11,x21)]:List (Int × Int))::[Ab v13 (x19:(List Int)),Ab v12 (x18:(List Int)),Ab v11 (x17:(List (Int × Int))),Af b1 [u3,u4]]):=hC40.rowOwn (by simp [maxLen])
            refine be hr12 fun x40 hx5 hr12=>Bi (α:=(Int × Int)) hC41 3 z (hC41.ro 0 z) (Aq _ _) A5 ty75 z hx5 z z z fun v33 w24 hC42=>?_
            try dsimp only [List.set] at hC42
            refine Ae z z<|Ac<|Ad<|Ag z z<|Ag z z<|A2 (vs:=[(I x11)]) hC42 Ah ty3 z z z z (fac z<|fa0) z z fun b10 w25 hC43 hB23=>?_
            have hC44:=hC43.row0 (α:=Int)
            have hC45:=hC44.triv (Bm (x11))
            have hC46:=hC45.row1
            have hC47:=hC46.front 1 z
            dsimp only [List.eraseIdx,List.cons_append,List.nil_append,List.append_nil] at hC47
            have hC48:Ctx [] w0 w25 (Ab (.slice (some ⟨b10,0,none⟩) 1 1) ([x11]:List Int)::[Ab (.slice (some ⟨b9,0,none⟩) 1 1) ([(x11,x21)]:(List (Int × Int))),Ab v13 (x19:(List Int)),Ab v12 (x18:(List Int)),Ab v33 (x40:(List (Int × Int))),Af b1 [u3,u4]]):=hC47.rowOwn (by simp [maxLen])
            refine be hr12 fun x41 hx6 hr12=>Bi (α:=Int) hC48 2 z (hC48.ro 0 z) (Aq _ _) Ah ty3 z hx6 z z z fun v34 w26 hC49=>?_
            try dsimp only [List.set] at hC49
            refine Ae z z<|Ac<|Ad<|Ag z z<|fd A0 AU z z z z<|Ao hC49 5 z z Ba z z<|Ag z z<|be hr12 fun x42 hx7 hr12=>AG Ax ty84 g4 hx7 z z z fun b11 o5 h17=>A3 ty84 h17 hC49.keep z z fun v35 h18=>?_
            obtain ⟨v36,rfl,h19⟩:=Cc h18
            refine be hr12 fun x43 hr13 hr12=>A7 Tryz.call57 z z (c_S_l6Bind x18 v12 ((hC49.ro 3 z).now (Aq _ _)) x42 v36 (h19.now hC49.keep) x43 hr13)<|?_
            rintro v37 w27 ⟨hB24,F2,hv6,hn4,hb4⟩
            have hC50:=hC49.push hB24 (A:=Ab v37 x43) hv6 hn4 hb4
            refine Ae z z<|Ac<|Bb<|Ae z z<|Ac<|?_
            obtain rfl:=Aa hr12
            have hC51:=hC50.f6
            have hC52:=hC51.f6
            have hC53:=hC52.f2
            have hC54:=hC53.f5
            have hC55:=hC54.h4
            exact Ak (l':=[(1,u2),(3,u5),(6,(ptr b1 0)),(10,v33),(11,v37),(12,v34),(13,(I x5)),(14,(.bool true)),(15,(I x11)),(16,(I x21))]) ⟨z,z,z,z,z,z,z,z,z,z,Ai⟩<|⟨v33,x40,v37,x43,v34,x41,true,z,z,hC55⟩
           replace hr12:=AD hr12 hc9
           refine AJ ?_
           obtain rfl:=Aa hr12
           exact Ak (l':=[(1,u2),(3,u5),(6,(ptr b1 0)),(10,v11),(11,v12),(12,v13),(13,(I x5)),(14,(.bool x20)),(15,(I x11)),(16,(I x21))]) ⟨z,z,z,z,z,z,z,z,z,z,Ai⟩<|⟨v11,x17,v12,x18,v13,x19,x20,z,z,hC23⟩
          rintro l7 _ w22 hs7 ⟨v30,x36,v31,x37,v32,x38,x39,rfl,rfl,hC35⟩
          try dsimp only at hL3
          refine AM<|AL hs7<|?_
          clear hs7
          exact Bb<|Ag z z<|Bj z z z<|Ae z z<|Ac<|Ak (l':=[(1,u2),(3,u5),(6,(ptr b1 0)),(10,v30),(11,v31),(12,v32),(13,(I x5)),(14,(.bool x39)),(15,(I x11)),(16,(I (w64 (x21+1))))]) ⟨z,z,z,z,z,z,z,z,z,z,Ai⟩<|⟨k3,Av _,v30,x36,v31,x37,v32,x38,x39,w64 (x21+1),z,hC35,hL3⟩
         replace hL3:=AD hL3 hc7
         refine Bt (A1 (A1 (Be ?_)))
         obtain rfl:=Aa hL3
         exact Ak (l':=[(1,u2),(3,u5),(6,(ptr b1 0)),(10,v11),(11,v12),(12,v13),(13,(I x5)),(14,(.bool x20)),(15,(I x11))]) ⟨z,z,z,z,z,z,z,z,z,Ai⟩<|⟨v11,x17,v12,x18,v13,x19,x20,z,z,hC21⟩
       rintro l8 _ w28 hs8 ⟨v14,x22,v15,x23,v16,x24,x25,rfl,rfl,hC56⟩
       try dsimp only at hL2
       refine AM<|AL hs8<|?_
       clear hs8
       exact Bb<|Ag z z<|Bj z z z<|Ae z z<|Ac<|Ak (l':=[(1,u2),(3,u5),(6,(ptr b1 0)),(10,v14),(11,v15),(12,v16),(13,(I x5)),(14,(.bool x25)),(15,(I (w64 (x11+1))))]) ⟨z,z,z,z,z,z,z,z,z,Ai⟩<|⟨k2,Av _,v14,x22,v15,x23,v16,x24,x25,w64 (x11+1),z,hC56,hL2⟩
      replace hL2:=AD hL2 hc4
      refine Bt (A1 (A1 (Be ?_)))
      obtain rfl:=Aa hL2
      exact Ak (l':=[(1,u2),(3,u5),(6,(ptr b1 0)),(10,v5),(11,v6),(12,v7),(13,(I x5)),(14,(.bool x10))]) ⟨z,z,z,z,z,z,z,z,Ai⟩<|⟨v5,x7,v6,x8,v7,x9,x10,z,z,hC19⟩
    rintro l9 _ w29 hs9 ⟨v8,x12,v9,x13,v10,x14,x15,rfl,rfl,hC57⟩
    try dsimp only at hL1
    refine AL hs9 ?_
    clear hs9
    refine Ad<|Ag z z<|Bx z z<|Ac<|AI z (fun hc10=>?_) (fun hc10=>?_)
    ·replace hL1:=AC hL1 hc10
     refine Ad<|A2 (vs:=[]) hC57 A5 ty75 z z z z (by simp) z z fun b12 w30 hC58 hB27=>?_
     have hC59:=hC58.row0 (α:=(Int × Int))
     have hC60:=hC59.front 1 z
     dsimp only [List.eraseIdx,List.cons_append,List.nil_append,List.append_nil] at hC60
     have hC61:Ctx [] w0 w30 (Ab (.slice (some ⟨b12,0,none⟩) 0 0) (([]:List (Int × Int)):List (Int × Int))::[Ab v10 (x14:(List Int)),Ab v9 (x13:(List Int)),Ab v8 (x12:(List (Int × Int))),Af b1 [u3,u4]]):=hC60.rowOwn (by simp [maxLen])
     refine Ae z z<|Ae z z<|Ac<|AP<|Bk<|Az<|Az<|Bk<|Az<|Az<|?_
     obtain rfl:=Aa hL1
     dsimp only at hF
     obtain rfl:=Aa hF
     refine Cd z z z ?_
     have hC62:=hC61.triv (BK (false))
     have hC63:=hC62.f1
     exact ⟨_,z,res2_of hC63⟩
    replace hL1:=AD hL1 hc10
    exact AJ<|AM<|Am<|Bb<|Ag z z<|Bj z z z<|Ae z z<|Ac<|Ak (l':=[(1,u2),(3,u5),(6,(ptr b1 0)),(10,v8),(11,v9),(12,v10),(13,(I (w64 (x5+1))))]) ⟨z,z,z,z,z,z,z,Ai⟩<|⟨k1,Av _,v8,x12,v9,x13,v10,x14,w64 (x5+1),z,hC57,hL1⟩
   replace hL1:=AD hL1 hc2
   refine Bt (A1 (A1 (Be ?_)))
   obtain rfl:=Aa hL1
   have hC64:=hC17.f2
   have hC65:=hC64.h1
   exact Ak (l':=[(10,v1)]) ⟨z,Ai⟩<|⟨v1,x2,z,z,hC65⟩
 rintro l10 _ w31 hs10 ⟨v4,x6,rfl,rfl,hC66⟩
 try dsimp only at hF
 refine AL hs10 ?_
 clear hs10
 refine Ad<|Ag z z<|Ae z z<|Ae z z<|Ac<|AP<|?_
 obtain rfl:=Aa hF
 refine Cd z z z ?_
 have hC67:=hC66.triv (BK (true))
 have hC68:=hC67.f1
 exact ⟨_,z,res2_of hC68⟩
theorem c_M_privateOrder_c1 {w0:World} (a1:(Int × (List Int) × Int × Int × Int)) (u1:Value) (g1:RO [] w0 u1 a1.2.1) (a2:(Int × (List Int))) (u2:Value) (g2:RO [] w0 u2 a2.2) (pb1:Nat) (ax1:(List Int)) (g3:ROAt [] w0 pb1 0 ax1) (rr:Bool) (hF:M.privateOrder_c1 a1 a2 ax1=some rr) :
 Calls Tryz.prog 95 [(.agg #[(I a1.1),u1,(I a1.2.2.1),(I a1.2.2.2.1),(I a1.2.2.2.2)]),(.agg #[(I a2.1),u2]),(ptr pb1 0)].toArray w0 fun e w'=>∃v,e=.returned v∧Res w0 rr v w':=by
 refine Au Tryz.func95 z z ?_
 have hC0:=AA w0
 unfold M.privateOrder_c1 at hF
 refine Ad<|Bv (cs:=[(I a1.1),u1,(I a1.2.2.1),(I a1.2.2.2.1),(I a1.2.2.2.2)]) hC0 z z z fun b1 w1 hC1 hB1 hN1=>Bv (cs:=[(I a2.1),u2]) hC1 z z z fun b2 w2 hC2 hB2 hN2=>Ae z z<|Ac<|A6<|B1 7 z hmix fun w3 hB3=>have hC3:=hC2.grow hB3;be hF fun x1 hr1 hF=>wAS (l':=[(0,(.agg #[(I a1.1),u1,(I a1.2.2.1),(I a1.2.2.2.1),(I a1.2.2.2.2)])),(1,(.agg #[(I a2.1),u2])),(2,(ptr pb1 0)),(3,(ptr b1 0)),(4,(ptr b2 0)),(5,(.bool false))]) ⟨z,z,z,z,z,z,Ai⟩<|Bw [⟨0,[],fun vs=>Bh (.agg #[(I a1.1),u1,(I a1.2.2.1),(I a1.2.2.2.1),(I a1.2.2.2.2)]),[]⟩,⟨1,[],fun vs=>Bh (.agg #[(I a2.1),u2]),[]⟩,⟨2,[],fun vs=>PW.own x1,[]⟩,⟨3,[],fun vs=>Ct [] w0 ax1,[]⟩] [[],[],[0,1],[]] 3 z (by kernel_rfl) (by kernel_rfl) z ?_ ?_
 ·refine An z ?_ ?_
  ·intro w5 hB5
   refine Ar<|⟨_,z,?_⟩
   exact A9 [(I a1.1),u1,(I a1.2.2.1),(I a1.2.2.2.1),(I a1.2.2.2.2)] (hC3.grow hB5) 1 z z z BU B8 z z<|Ac<|Ay (Al _ _) z z ⟨z,z⟩
  refine An z ?_ ?_
  ·intro w5 hB5
   refine Ar<|⟨_,z,?_⟩
   exact A9 [(I a2.1),u2] (hC3.grow hB5) 0 z z z C9 Ca z z<|Ac<|Ay (Al _ _) z z ⟨z,z⟩
  refine An z ?_ ?_
  ·intro w5 hB5
   refine AK z z z ?_
   rintro _ _ ⟨rfl,rfl⟩ _
   refine AK z z z ?_
   rintro _ _ ⟨rfl,rfl⟩ _
   refine Ar<|⟨_,z,?_⟩
   refine A7 Tryz.call79 z z (c_M_passed (a1.1,a1.2.1,a1.2.2.1,a1.2.2.2.1,a1.2.2.2.2) u1 (g1.now (hC3.keep.then hB5)) (a2.1,a2.2) u2 (g2.now (hC3.keep.then hB5)) x1 hr1) ?_
   rintro v1 w4 ⟨hB4,F1,hv1,hn1,hb1⟩
   exact Ac<|FinE_own hB4 z z hv1 hn1 hb1 (Val.inh hv1)
  refine An z ?_ ?_
  ·intro w5 hB5
   refine Ar<|⟨_,z,?_⟩
   exact A3 ty22 g3 (hC3.keep.then hB5) z z fun v2 h1=>Ac<|Ay (Al _ _) z z ⟨z,h1⟩
  exact Bp
 intro w6 hB6
 refine At z z z ?_
 rintro _ _ ⟨rfl,rfl⟩
 refine At z z z ?_
 rintro _ _ ⟨rfl,rfl⟩
 refine At z z z fun v1 F1 hv1=>At z z z<|?_
 rintro v2 _ ⟨rfl,h1⟩
 refine B0 ?_
 intro hn2 hb2
 have hC4:=hC3.pushL hB6 (Bs:=[Ab v1 (x1:(List Int))]) (Fs:=[F1]) ⟨F1,_,z,hv1,z⟩ (by simpa using hn2) (fun b h=>(hb2 b (by simpa using h)).1)
 refine be hF fun x2 hr2 hF=>oe 4 z<|cb Tryz.call49 z z (c_M_meets x1 v1 ((hC4.ro 0 z).now (Aq _ _)) ax1 v2 (h1.now hC4.keep) x2 hr2) fun w7 hB7=>have hC5:=hC4.grow hB7;Ac<|tk 5 z z (Cm z)<|Bx z z<|Ac<|ta 6 z z z<|dn<|Am<|AP<|?_
 obtain rfl:=Aa hF
 exact A8 z z<|⟨_,z,AR hC5 _⟩
theorem c_M_greedyWhere_c1_c1_M_privateOrder_c1 {w0:World} (a1:(Int × (List Int) × Int × Int × Int)) (u1:Value) (g1:RO [] w0 u1 a1.2.1) (pb1:Nat) (ax1:(Int × (List Int))) (g2:ROAt [] w0 pb1 0 ax1) (pb2:Nat) (ax2:(List Int)) (g3:ROAt [] w0 pb2 0 ax2) (pb3:Nat) (ax3:(List Int)) (g4:ROAt [] w0 pb3 0 ax3) (pb4:Nat) (g5:ROAt [] w0 pb4 0 (RawF.mk:RawF 95 [(ptr pb3 0)])) (rr:Bool) (hF:M.greedyWhere_c1_c1_M_privateOrder_c1 a1 ax1 ax2 ax3=some rr) :
 Calls Tryz.prog 124 [(.agg #[(I a1.1),u1,(I a1.2.2.1),(I a1.2.2.2.1),(I a1.2.2.2.2)]),(ptr pb1 0),(ptr pb2 0),(ptr pb4 0)].toArray w0 fun e w'=>∃v,e=.returned v∧Res w0 rr v w':=by
 refine Au Tryz.func124 z z ?_
 have hC0:=AA w0
 unfold M.greedyWhere_c1_c1_M_privateOrder_c1 at hF
 refine Ad<|Bv (cs:=[(I a1.1),u1,(I a1.2.2.1),(I a1.2.2.2.1),(I a1.2.2.2.2)]) hC0 z z z fun b1 w1 hC1 hB1 hN1=>Ae z z<|Ac<|be hF fun r1 hr1 hF=>BA (fun l w=>∃x1:Bool,x1=r1∧l=[(5,(.bool x1))]∧Below w1.heap.size w1 w∧Ctx [] w0 w []) ?_ ?_
 ·refine Bb<|A9 [(I a1.1),u1,(I a1.2.2.1),(I a1.2.2.2.1),(I a1.2.2.2.2)] hC1 0 z z z BU B8 z z<|A3 ty84 g2 hC1.keep z z fun v1 h1=>?_
  obtain ⟨v2,rfl,h2⟩:=Cc h1
  refine A3 ty22 g3 hC1.keep z z fun v3 h3=>be hr1 fun x2 hr2 hr1=>cb Tryz.call86 z z (c_M_CanCall (a1.1,a1.2.1,a1.2.2.1,a1.2.2.2.1,a1.2.2.2.2) u1 (g1.now hC1.keep) ax1 v2 (h2.now hC1.keep) ax2 v3 (h3.now hC1.keep) x2 hr2) fun w3 hB3=>have hC3:=hC1.grow hB3;Ag z z<|Br (fun hc1=>?_) (fun hc1=>?_)
  ·replace hr1:=AC hr1 hc1
   refine Aj z z<|A3 (tyr113 _ _) g5 hC3.keep z z fun v4 h4=>?_
   obtain rfl:=ro_raw h4
   refine Aj z z<|A9 [(I a1.1),u1,(I a1.2.2.1),(I a1.2.2.2.1),(I a1.2.2.2.2)] hC3 0 z z z BU B8 z z<|Aj z z<|A3 ty84 g2 hC3.keep z z fun v5 h5=>?_
   obtain ⟨v6,rfl,h6⟩:=Cc h5
   refine be hr1 fun x3 hr3 hr1=>Aj z z<|BH (cap:=[(ptr pb3 0)]) Tryz.call95 z z z (c_M_privateOrder_c1 (a1.1,a1.2.1,a1.2.2.1,a1.2.2.2.1,a1.2.2.2.2) u1 (g1.now hC3.keep) ax1 v6 (h6.now hC3.keep) pb3 ax3 (g4.now hC3.keep) x3 hr3) fun _ w4 hv2=>?_
   obtain ⟨rfl,hB4⟩:=BJ hv2
   have hC4:=hC3.grow hB4
   refine AV z z z<|Ae z z<|Ac<|?_
   obtain rfl:=Aa hr1
   have hC5:=hC4.h0
   exact Ak (l':=[(5,(.bool x3))]) ⟨z,Ai⟩<|⟨x3,z,z,((Ap hB3).then hB4).below,hC5⟩
  replace hr1:=AD hr1 hc1
  refine gs z z z z<|gs z z z z<|gs z z z z<|gs z z z z<|AS z z z<|Ae z z<|Ac<|?_
  obtain rfl:=Aa hr1
  have hC6:=hC3.h0
  exact Ak (l':=[(5,(.bool false))]) ⟨z,Ai⟩<|⟨false,z,z,(Ap hB3).below,hC6⟩
 rintro _ w2 ⟨x1,rfl,rfl,hB2,hC2⟩
 try dsimp only at hF
 refine AP ?_
 obtain rfl:=Aa hF
 exact A8 z z<|⟨_,z,AR hC2 _⟩
theorem c_Slices_IndexFunc_Limpl_Method_impl_Method_M_greedyWhere_c1_c1_M_privateOrder_c1 {w0:World} (a1:(List (Int × (List Int) × Int × Int × Int))) (u1:Value) (g1:RO [] w0 u1 a1) (pb1:Nat) (ax1:(Int × (List Int))) (g2:ROAt [] w0 pb1 0 ax1) (pb2:Nat) (ax2:(List Int)) (g3:ROAt [] w0 pb2 0 ax2) (pb3:Nat) (ax3:(List Int)) (g4:ROAt [] w0 pb3 0 ax3) (pb4:Nat) (g5:ROAt [] w0 pb4 0 (RawF.mk:RawF 95 [(ptr pb3 0)])) (rr:Int) (hF:Slices.IndexFunc_Limpl_Method_impl_Method_M_greedyWhere_c1_c1_M_privateOrder_c1 a1 ax1 ax2 ax3=some rr) :
 Calls Tryz.prog 123 [u1,(.func (.func 124) #[] #[(ptr pb1 0),(ptr pb2 0),(ptr pb4 0)])].toArray w0 fun e w'=>∃v,e=.returned v∧Res w0 rr v w':=by
 refine Au Tryz.func123 z z ?_
 have hC0:=AA w0
 unfold Slices.IndexFunc_Limpl_Method_impl_Method_M_greedyWhere_c1_c1_M_privateOrder_c1 at hF
 refine Ad<|Ae z z<|Ac<|A6<|Ad<|Ag z z<|AZ Bc g1 z z<|Ag z z<|Ac<|be hF fun r1 hr1 hF=>Bd (fun l w=>.inl ()=r1∧l=[]∧Below w0.heap.size w0 w∧Ctx [] w0 w []) ?_ ?_
 ·refine AH<|wS (l':=[(0,u1),(1,(.func (.func 124) #[] #[(ptr pb1 0),(ptr pb2 0),(ptr pb4 0)])),(7,(I (List.length a1:Int))),(8,(I 0))]) ⟨z,z,z,z,Ai⟩<|Bu (fun k l w=>∃x1:Int,l=[(0,u1),(1,(.func (.func 124) #[] #[(ptr pb1 0),(ptr pb2 0),(ptr pb4 0)])),(7,(I (List.length a1:Int))),(8,(I x1))]∧Below w0.heap.size w0 w∧Ctx [] w0 w []∧Slices.IndexFunc_Limpl_Method_impl_Method_M_greedyWhere_c1_c1_M_privateOrder_c1_l1 a1 ax1 ax2 ax3 k x1=some r1) FUEL ⟨0,z,(Al _ _),hC0,hr1⟩<|?_
  clear hr1
  rintro k1 _ w1 ⟨x1,rfl,hB1,hC1,hL1⟩
  cases k1 with
  | zero=>rw [Slices.IndexFunc_Limpl_Method_impl_Method_M_greedyWhere_c1_c1_M_privateOrder_c1_l1] at hL1; cases hL1
  | succ k1 =>
   rw [Slices.IndexFunc_Limpl_Method_impl_Method_M_greedyWhere_c1_c1_M_privateOrder_c1_l1] at hL1
   refine Ad<|Bo z z z<|Ac<|A6<|AI z (fun hc1=>?_) (fun hc1=>?_)
   ·replace hL1:=AC hL1 hc1
    refine AJ<|Am<|A6<|AH<|Ad<|Ag z z<|Ae z z<|Ac<|Ad<|Ag z z<|Ag z z<|Ag z z<|be hL1 fun x2 hx1 hL1=>AG Bc ty71 g1 hx1 z z z fun b1 o1 h1=>A3 ty71 h1 hC1.keep z z fun v1 h2=>?_
    obtain ⟨v2,rfl,h3⟩:=Cz h2
    refine be hL1 fun x3 hr2 hL1=>BH (cap:=[(ptr pb1 0),(ptr pb2 0),(ptr pb4 0)]) Tryz.call124 z z z (c_M_greedyWhere_c1_c1_M_privateOrder_c1 x2 v2 (h3.now hC1.keep) pb1 ax1 (g2.now hC1.keep) pb2 ax2 (g3.now hC1.keep) pb3 ax3 (g4.now hC1.keep) pb4 (g5.now hC1.keep) x3 hr2) fun _ w2 hv1=>?_
    obtain ⟨rfl,hB2⟩:=BJ hv1
    have hC2:=hC1.grow hB2
    refine Ac<|AI z (fun hc2=>?_) (fun hc2=>?_)
    ·replace hL1:=AC hL1 hc2
     refine Ad<|Ag z z<|Ae z z<|Ac<|AP<|Bk<|Az<|Az<|Bk<|Az<|Az<|?_
     obtain rfl:=Aa hL1
     dsimp only at hF
     obtain rfl:=Aa hF
     exact A8 z z<|⟨_,z,B5 hC2 _⟩
    replace hL1:=AD hL1 hc2
    exact AJ<|AM<|Am<|Bb<|Bj z z z<|Ag z z<|Ac<|Ak (l':=[(0,u1),(1,(.func (.func 124) #[] #[(ptr pb1 0),(ptr pb2 0),(ptr pb4 0)])),(7,(I (List.length a1:Int))),(8,(I (w64 (x1+1))))]) ⟨z,z,z,z,Ai⟩<|⟨k1,Av _,w64 (x1+1),z,((Ap hB1).then hB2).below,hC2,hL1⟩
   replace hL1:=AD hL1 hc1
   refine Bt (A1 (A1 (Be ?_)))
   obtain rfl:=Aa hL1
   exact Ak (l':=[]) Ai<|⟨z,z,(Ap hB1).below,hC1⟩
 rintro l2 _ w3 hs2 ⟨rfl,rfl,hB3,hC3⟩
 try dsimp only at hF
 refine AL hs2 ?_
 clear hs2
 refine Ad<|Ae z z<|Ac<|AP<|?_
 obtain rfl:=Aa hF
 exact A8 z z<|⟨_,z,B5 hC3 _⟩
theorem c_M_greedyWhere_c1_M_privateOrder_c1 {w0:World} (pb1:Nat) (ax1:(List (Int × (List Int)))) (g1:ROAt [] w0 pb1 0 ax1) (pb2:Nat) (ax2:(List (Int × (List Int) × Int × Int × Int))) (g2:ROAt [] w0 pb2 0 ax2) (pb3:Nat) (ax3:(List Int)) (g3:ROAt [] w0 pb3 0 ax3) (pb4:Nat) (ax4:(List Int)) (g4:ROAt [] w0 pb4 0 ax4) (pb5:Nat) (g5:ROAt [] w0 pb5 0 (RawF.mk:RawF 95 [(ptr pb4 0)])) (pb6:Nat) (ax5:(List Bool)) (g6:ROAt [] w0 pb6 0 ax5) (rr:((Int × Int) × Bool)) (hF:M.greedyWhere_c1_M_privateOrder_c1 ax1 ax2 ax3 ax4 ax5=some rr) :
 Calls Tryz.prog 122 [(ptr pb1 0),(ptr pb2 0),(ptr pb3 0),(ptr pb5 0),(ptr pb6 0)].toArray w0 fun e w'=>∃v,e=.returned v∧Res2 w0 rr.1 rr.2 v w':=by
 refine Au Tryz.func122 z z ?_
 have hC0:=AA w0
 unfold M.greedyWhere_c1_M_privateOrder_c1 at hF
 refine Ad<|By hC0 zero75 z z fun b1 w1 hC1 hB1 hN1=>Ae z z<|Ac<|A6<|Ad<|A3 ty35 g1 hC1.keep z z fun v1 h1=>AZ Ax h1 z z<|Ag z z<|Ac<|be hF fun r1 hr1 hF=>Bd (fun l w=>∃x4:Int,∃x5:Int,.inl (x4,x5)=r1∧l=[(5,(ptr b1 0))]∧Ctx [] w0 w [Af b1 [(I x4),(I x5)]]) ?_ ?_
 ·refine AH<|wS (l':=[(1,(ptr pb2 0)),(2,(ptr pb3 0)),(3,(ptr pb5 0)),(4,(ptr pb6 0)),(5,(ptr b1 0)),(10,v1),(11,(I (List.length ax1:Int))),(12,(I 0))]) ⟨z,z,z,z,z,z,z,z,Ai⟩<|Bu (fun k l w=>∃x1:Int,∃x2:Int,∃x3:Int,l=[(1,(ptr pb2 0)),(2,(ptr pb3 0)),(3,(ptr pb5 0)),(4,(ptr pb6 0)),(5,(ptr b1 0)),(10,v1),(11,(I (List.length ax1:Int))),(12,(I x3))]∧Ctx [] w0 w [Af b1 [(I x1),(I x2)]]∧M.greedyWhere_c1_M_privateOrder_c1_l1 ax1 ax2 ax3 ax4 ax5 k x1 x2 x3=some r1) FUEL ⟨0,0,0,z,hC1,hr1⟩<|?_
  clear hr1
  rintro k1 _ w2 ⟨x1,x2,x3,rfl,hC2,hL1⟩
  cases k1 with
  | zero=>rw [M.greedyWhere_c1_M_privateOrder_c1_l1] at hL1; cases hL1
  | succ k1 =>
   rw [M.greedyWhere_c1_M_privateOrder_c1_l1] at hL1
   refine Ad<|Bo z z z<|Ac<|A6<|AI z (fun hc1=>?_) (fun hc1=>?_)
   ·replace hL1:=AC hL1 hc1
    refine AJ<|Am<|A6<|AH<|Ad<|Ag z z<|be hL1 fun x6 hx1 hL1=>AG Ax ty84 h1 hx1 z z z fun b2 o1 h2=>A3 ty84 h2 hC2.keep z z fun v2 h3=>?_
    obtain ⟨v3,rfl,h4⟩:=Cc h3
    refine By hC2 zero84 z z fun b3 w3 hC3 hB3 hN2=>Ae z z<|AO (cs':=[(I x6.1),v3]) (new:=[(I x6.1),v3]) hC3 0 z z (fac z<|fac (Bz h4)<|fa0) z Ca z z fun w4 hC4 hKp1=>?_
    try dsimp only [List.set] at hC4
    have hk1:=AY (Ap hB3) hN2 hKp1
    refine Ac<|Ad<|A3 ty33 g2 hC4.keep z z fun v4 h5=>BL z z<|be hL1 fun x7 hr2 hL1=>ci Tryz.call123 z z (c_Slices_IndexFunc_Limpl_Method_impl_Method_M_greedyWhere_c1_c1_M_privateOrder_c1 ax2 v4 (h5.now hC4.keep) b3 (x6.1,x6.2) (hC4.boxAt 0 z (repw_pair repw_int (repw_slice (h4.now hC4.keep)))) pb3 ax3 (g3.now hC4.keep) pb4 ax4 (g4.now hC4.keep) pb5 (g5.now hC4.keep) x7 hr2) fun w5 hB4=>have hC5:=hC4.grow hB4;Ae z z<|Ac<|be hL1 fun r2 hr3 hL1=>BA (fun l w=>∃x8:Bool,x8=r2∧l=[(1,(ptr pb2 0)),(2,(ptr pb3 0)),(3,(ptr pb5 0)),(4,(ptr pb6 0)),(5,(ptr b1 0)),(7,(I x3)),(9,(I x7)),(10,v1),(11,(I (List.length ax1:Int))),(12,(I x3)),(28,(.bool x8))]∧Below w5.heap.size w5 w∧Ctx [] w0 w [Af b1 [(I x1),(I x2)]]) ?_ ?_
    ·refine Bb<|A3 ty107 g6 hC5.keep z z fun v5 h6=>Ag z z<|be hr3 fun x9 hx2 hr3=>AG BO ty4 h6 hx2 z z z fun b4 o2 h7=>A3 ty4 h7 hC5.keep z z fun v6 h8=>?_
     obtain rfl:=ro_bool h8
     refine Bx z z<|Ag z z<|Br (fun hc2=>?_) (fun hc2=>?_)
     ·replace hr3:=AC hr3 hc2
      refine Aj z z<|Ag z z<|Aj z z<|Cq z z z<|AV z z z<|Ac<|?_
      obtain rfl:=Aa hr3
      have hC7:=hC5.f1
      have hC8:=hC7.h1
      exact Ak (l':=[(1,(ptr pb2 0)),(2,(ptr pb3 0)),(3,(ptr pb5 0)),(4,(ptr pb6 0)),(5,(ptr b1 0)),(7,(I x3)),(9,(I x7)),(10,v1),(11,(I (List.length ax1:Int))),(12,(I x3)),(28,(.bool (decide (0 ≤ x7))))]) ⟨z,z,z,z,z,z,z,z,z,z,z,Ai⟩<|⟨(decide (0 ≤ x7)),z,z,(Al _ _),hC8⟩
     replace hr3:=AD hr3 hc2
     refine gs z z z z<|gs z z z z<|AS z z z<|Ac<|?_
     obtain rfl:=Aa hr3
     have hC9:=hC5.f1
     have hC10:=hC9.h1
     exact Ak (l':=[(1,(ptr pb2 0)),(2,(ptr pb3 0)),(3,(ptr pb5 0)),(4,(ptr pb6 0)),(5,(ptr b1 0)),(7,(I x3)),(9,(I x7)),(10,v1),(11,(I (List.length ax1:Int))),(12,(I x3)),(28,(.bool false))]) ⟨z,z,z,z,z,z,z,z,z,z,z,Ai⟩<|⟨false,z,z,(Al _ _),hC10⟩
    rintro _ w6 ⟨x8,rfl,rfl,hB5,hC6⟩
    try dsimp only at hL1
    refine AI z (fun hc3=>?_) (fun hc3=>?_)
    ·replace hL1:=AC hL1 hc3
     refine Ad<|Ag z z<|Ag z z<|Ck (vs:=[(0,(I x3)),(1,(I x7))]) z z z (built75_0_1 z z)<|AO (cs':=[(I x3),(I x7)]) (new:=[(I x3),(I x7)]) hC6 0 z z (fac z<|fac z<|fa0) z BI z z fun w7 hC11 hKp2=>?_
     try dsimp only [List.set] at hC11
     refine Ae z z<|Ac<|AP<|Bk<|Az<|Az<|Bk<|Az<|Az<|?_
     obtain rfl:=Aa hL1
     dsimp only at hF
     obtain rfl:=Aa hF
     refine fn_retG2 z (rv_cell_agg (cs':=[(I x3),(I x7)]) hC11 (i:=0) z z z CA BI z) (rv_tmp z) ?_
     have hC12:=hC11.triv (BK (true))
     have hC13:=C5 x3 x7 hC12
     exact ⟨_,z,res2_of hC13⟩
    replace hL1:=AD hL1 hc3
    exact AJ<|AM<|Am<|Bb<|Bj z z z<|Ag z z<|Ac<|Ak (l':=[(1,(ptr pb2 0)),(2,(ptr pb3 0)),(3,(ptr pb5 0)),(4,(ptr pb6 0)),(5,(ptr b1 0)),(10,v1),(11,(I (List.length ax1:Int))),(12,(I (w64 (x3+1))))]) ⟨z,z,z,z,z,z,z,z,Ai⟩<|⟨k1,Av _,x1,x2,w64 (x3+1),z,hC6,hL1⟩
   replace hL1:=AD hL1 hc1
   refine Bt (A1 (A1 (Be ?_)))
   obtain rfl:=Aa hL1
   exact Ak (l':=[(5,(ptr b1 0))]) ⟨z,Ai⟩<|⟨x1,x2,z,z,hC2⟩
 rintro l3 _ w9 hs3 ⟨x4,x5,rfl,rfl,hC14⟩
 try dsimp only at hF
 refine AL hs3 ?_
 clear hs3
 refine Ad<|Ck (vs:=[]) z z z built75<|AO (cs':=[(I 0),(I 0)]) (new:=[(I 0),(I 0)]) hC14 0 z z (fac z<|fac z<|fa0) z BI z z fun w10 hC15 hKp3=>?_
 try dsimp only [List.set] at hC15
 refine Ae z z<|Ac<|AP<|?_
 obtain rfl:=Aa hF
 refine fn_retG2 z (rv_cell_agg (cs':=[(I 0),(I 0)]) hC15 (i:=0) z z z CA BI z) (rv_tmp z) ?_
 have hC16:=hC15.triv (BK (false))
 have hC17:=C5 0 0 hC16
 exact ⟨_,z,res2_of hC17⟩
theorem c_M_greedyWhere_M_privateOrder_c1 {w0:World} (a1:(List (Int × (List Int) × Int × Int × Int))) (u1:Value) (g1:RO [] w0 u1 a1) (a2:(List (Int × (List Int)))) (u2:Value) (g2:RO [] w0 u2 a2) (pb1:Nat) (ax1:(List Int)) (g3:ROAt [] w0 pb1 0 ax1) (rr:((List (Int × Int)) × (List Bool))) (hF:M.greedyWhere_M_privateOrder_c1 a1 a2 ax1=some rr) :
 Calls Tryz.prog 94 [u1,u2,(.func (.func 95) #[] #[(ptr pb1 0)])].toArray w0 fun e w'=>∃v,e=.returned v∧Res2 w0 rr.1 rr.2 v w':=by
 refine Au Tryz.func94 z z ?_
 have hC0:=AA w0
 unfold M.greedyWhere_M_privateOrder_c1 at hF
 refine Ad<|Bv (cs:=[u1]) hC0 (Cj g1) z z fun b1 w1 hC1 hB1 hN1=>Bv (cs:=[u2]) hC1 (Cj g2) z z fun b2 w2 hC2 hB2 hN2=>Bv (cs:=[(.func (.func 95) #[] #[(ptr pb1 0)])]) hC2 z z z fun b3 w3 hC3 hB3 hN3=>Ae z z<|Ae z z<|Ac<|Ad<|A2 (vs:=[]) hC3 A5 ty75 z z z z (by simp) z z fun b4 w4 hC4 hB4=>?_
 have hC5:=hC4.row0 (α:=(Int × Int))
 have hC6:=hC5.front 1 z
 dsimp only [List.eraseIdx,List.cons_append,List.nil_append,List.append_nil] at hC6
 have hC7:Ctx [] w0 w4 (Ab (.slice (some ⟨b4,0,none⟩) 0 0) (([]:List (Int × Int)):List (Int × Int))::[Af b3 [(.func (.func 95) #[] #[(ptr pb1 0)])],Af b2 [u2],Af b1 [u1]]):=hC6.rowOwn (by simp [maxLen])
 refine Ae z z<|Ac<|Ad<|Ao hC7 2 z z Ba z z<|AZ Ax g2 z z<|be hF fun x1 hx1 hF=>WL_makeSlice hC7 BO ty4 z zc4 zr4 hx1 z z z fun b5 w5 hC8 hB5=>By hC8 zero107 z z fun b6 w6 hC9 hB6 hN4=>B3 (cs':=[(.slice (some ⟨b5,0,none⟩) (Int.toNat (List.length a2:Int)) (Int.toNat (List.length a2:Int)))]) hC9 0 z z (Bz (hC9.ro 1 z)) z Tryz.sizeOf107 z z fun w7 hC10 hKp1=>?_
 try dsimp only [List.set] at hC10
 have hk1:=AY ((((((Ap hB1).then hB2).then hB3).then hB4).then hB5).then hB6) (Bg (((((Ap hB1).then hB2).then hB3).then hB4).then hB5).size hN4) hKp1
 have hk2:=AY (((((Ap hB2).then hB3).then hB4).then hB5).then hB6) (Bg ((((Ap hB2).then hB3).then hB4).then hB5).size hN4) hKp1
 have hk3:=AY ((((Ap hB3).then hB4).then hB5).then hB6) (Bg (((Ap hB3).then hB4).then hB5).size hN4) hKp1
 have hk4:=AY (((Ap hB4).then hB5).then hB6) (Bg ((Ap hB4).then hB5).size hN4) hKp1
 have hk5:=AY ((Ap hB5).then hB6) (Bg (Ap hB5).size hN4) hKp1
 have hk6:=AY (Ap hB6) hN4 hKp1
 refine Ac<|Ad<|A2 (vs:=[]) hC10 Ah ty3 z z z z (by simp) z z fun b7 w9 hC11 hB7=>?_
 have hC12:=hC11.row0 (α:=Int)
 have hC13:=hC12.front 1 z
 dsimp only [List.eraseIdx,List.cons_append,List.nil_append,List.append_nil] at hC13
 have hC14:Ctx [] w0 w9 (Ab (.slice (some ⟨b7,0,none⟩) 0 0) (([]:List Int):List Int)::[Af b6 [(.slice (some ⟨b5,0,none⟩) (Int.toNat (List.length a2:Int)) (Int.toNat (List.length a2:Int)))],Ab (.slice (some ⟨b5,0,none⟩) (Int.toNat (List.length a2:Int)) (Int.toNat (List.length a2:Int))) (x1:(List Bool)),Ab (.slice (some ⟨b4,0,none⟩) 0 0) (([]:List (Int × Int)):(List (Int × Int))),Af b3 [(.func (.func 95) #[] #[(ptr pb1 0)])],Af b2 [u2],Af b1 [u1]]):=hC13.rowOwn (by simp [maxLen])
 refine By hC14 zero22 z z fun b8 w10 hC15 hB8 hN5=>B3 (cs':=[(.slice (some ⟨b7,0,none⟩) 0 0)]) hC15 0 z z (Bz (hC15.ro 1 z)) z Aw z z fun w11 hC16 hKp2=>?_
 try dsimp only [List.set] at hC16
 have hk7:=AY ((hk1.then hB7).then hB8) (Bg (hk1.then hB7).size hN5) hKp2
 have hk8:=AY ((hk2.then hB7).then hB8) (Bg (hk2.then hB7).size hN5) hKp2
 have hk9:=AY ((hk3.then hB7).then hB8) (Bg (hk3.then hB7).size hN5) hKp2
 have hk10:=AY ((hk4.then hB7).then hB8) (Bg (hk4.then hB7).size hN5) hKp2
 have hk11:=AY ((hk5.then hB7).then hB8) (Bg (hk5.then hB7).size hN5) hKp2
 have hk12:=AY ((hk6.then hB7).then hB8) (Bg (hk6.then hB7).size hN5) hKp2
 have hk13:=AY ((Ap hB7).then hB8) (Bg (Ap hB7).size hN5) hKp2
 have hk14:=AY (Ap hB8) hN5 hKp2
 refine Ac<|Ad<|BL z z<|Ae z z<|Ac<|A6<|Ad<|Ag z z<|be hF fun x2 hr1 hF=>BH (cap:=[(ptr b2 0),(ptr b1 0),(ptr b8 0),(ptr b3 0),(ptr b6 0)]) Tryz.call122 z z z (c_M_greedyWhere_c1_M_privateOrder_c1 b2 a2 (hC16.boxAt 6 z (repw_slice (g2.now hC16.keep))) b1 a1 (hC16.boxAt 7 z (repw_slice (g1.now hC16.keep))) b8 ([]:List Int) (hC16.boxAt 0 z (repw_slice (hC16.ro 1 z))) pb1 ax1 (g3.now hC16.keep) b3 (hC16.boxAt 5 z repw_raw) b6 x1 (hC16.boxAt 2 z (repw_slice (hC16.ro 3 z))) x2 hr1)<|?_
 rintro _ w12 ⟨hB9,v1,v2,F1,F2,rfl,hv1,hv2,hn1,hb1⟩
 obtain ⟨rfl,rfl⟩:=val_bool hv2
 have hC17:=hC16.pushL hB9 (Bs:=[Ab v1 x2.1]) (Fs:=[F1]) ⟨F1,_,z,hv1,z⟩ (by simpa using hn1) (fun b h=>hb1 b (by simpa using h))
 obtain ⟨rfl,hC18⟩:=st75_own hC17
 refine Ag z z<|AF z z z<|AF z z z<|By hC18 zero75 z z fun b9 w13 hC19 hB10 hN6=>AO (cs':=[(I x2.1.1),(I x2.1.2)]) (new:=[(I x2.1.1),(I x2.1.2)]) hC19 0 z z (fac z<|fac z<|fa0) z BI z z fun w14 hC20 hKp3=>?_
 try dsimp only [List.set] at hC20
 have hk15:=AY ((hk7.then hB9).then hB10) (Bg (hk7.then hB9).size hN6) hKp3
 have hk16:=AY ((hk8.then hB9).then hB10) (Bg (hk8.then hB9).size hN6) hKp3
 have hk17:=AY ((hk9.then hB9).then hB10) (Bg (hk9.then hB9).size hN6) hKp3
 have hk18:=AY ((hk10.then hB9).then hB10) (Bg (hk10.then hB9).size hN6) hKp3
 have hk19:=AY ((hk11.then hB9).then hB10) (Bg (hk11.then hB9).size hN6) hKp3
 have hk20:=AY ((hk12.then hB9).then hB10) (Bg (hk12.then hB9).size hN6) hKp3
 have hk21:=AY ((hk13.then hB9).then hB10) (Bg (hk13.then hB9).size hN6) hKp3
 have hk22:=AY ((hk14.then hB9).then hB10) (Bg (hk14.then hB9).size hN6) hKp3
 have hk23:=AY ((Ap hB9).then hB10) (Bg (Ap hB9).size hN6) hKp3
 have hk24:=AY (Ap hB10) hN6 hKp3
 refine Ae z z<|Ac<|be hF fun r1 hr2 hF=>Bd (fun l w=>∃x9:(List Bool),∃v5:Value,∃x10:(List Int),∃v6:Value,∃x11:(List (Int × Int)),(x9,x10,x11)=r1∧l=[(8,v6),(9,(ptr b6 0))]∧Ctx [] w0 w [Af b6 [(.slice (some ⟨b5,0,none⟩) (Int.toNat (List.length a2:Int)) (Int.toNat (List.length a2:Int)))],Ab (.slice (some ⟨b5,0,none⟩) (Int.toNat (List.length a2:Int)) (Int.toNat (List.length a2:Int))) (x9:(List Bool)),Ab v6 (x11:(List (Int × Int)))]) ?_ ?_
 ·refine AH<|wS (l':=[(4,(ptr b2 0)),(8,(.slice (some ⟨b4,0,none⟩) 0 0)),(9,(ptr b6 0)),(10,(ptr b8 0)),(11,(.func (.func 122) #[] #[(ptr b2 0),(ptr b1 0),(ptr b8 0),(ptr b3 0),(ptr b6 0)])),(12,(ptr b9 0)),(13,(.bool x2.2))]) ⟨z,z,z,z,z,z,z,Ai⟩<|Bu (fun k l w=>∃x3:(List Bool),∃v3:Value,∃x4:(List Int),∃v4:Value,∃x5:(List (Int × Int)),∃b10:Nat,∃x6:Int,∃x7:Int,∃x8:Bool,l=[(4,(ptr b2 0)),(8,v4),(9,(ptr b6 0)),(10,(ptr b8 0)),(11,(.func (.func 122) #[] #[(ptr b2 0),(ptr b1 0),(ptr b8 0),(ptr b3 0),(ptr b6 0)])),(12,(ptr b10 0)),(13,(.bool x8))]∧Ctx [] w0 w [Af b10 [(I x6),(I x7)],Af b8 [v3],Ab v3 (x4:(List Int)),Af b6 [(.slice (some ⟨b5,0,none⟩) (Int.toNat (List.length a2:Int)) (Int.toNat (List.length a2:Int)))],Ab (.slice (some ⟨b5,0,none⟩) (Int.toNat (List.length a2:Int)) (Int.toNat (List.length a2:Int))) (x3:(List Bool)),Ab v4 (x5:(List (Int × Int))),Af b3 [(.func (.func 95) #[] #[(ptr pb1 0)])],Af b2 [u2],Af b1 [u1]]∧M.greedyWhere_M_privateOrder_c1_l1 a2 a1 ax1 k x3 x4 x5 x6 x7 x8=some r1) FUEL ⟨x1,(.slice (some ⟨b7,0,none⟩) 0 0),([]:List Int),(.slice (some ⟨b4,0,none⟩) 0 0),([]:List (Int × Int)),b9,x2.1.1,x2.1.2,x2.2,z,hC20,hr2⟩<|?_
  clear hr2
  rintro k1 _ w15 ⟨x3,v3,x4,v4,x5,b10,x6,x7,x8,rfl,hC21,hL1⟩
  cases k1 with
  | zero=>rw [M.greedyWhere_M_privateOrder_c1_l1] at hL1; cases hL1
  | succ k1 =>
   rw [M.greedyWhere_M_privateOrder_c1_l1] at hL1
   refine A6<|Ad<|Ag z z<|Ac<|AI z (fun hc1=>?_) (fun hc1=>?_)
   ·replace hL1:=AC hL1 hc1
    refine AJ<|Am<|A6<|AH<|Ad<|Ao hC21 3 z z Tryz.isAgg107 z z<|fd AX AE z z z z<|Ao hC21 0 z z Bl z z<|be hL1 fun x12 hx2 hL1=>BV hC21 4 z BO ty4 hx2 z z z fun b11 hE1=>?_
    have hC23:=hC21.triv (BK (true))
    refine Cb hC23 4 z ty4 hE1 hx2 z z z (fun w16 hC22=>?_)
    try dsimp only [List.set] at hC22
    refine Ac<|A6<|B1 9 z hmix fun w17 hB12=>have hC24:=hC22.grow hB12;tf 2 AX AE z z z z z<|be hL1 fun x13 hx3 hL1=>wAS (l':=[(4,(ptr b2 0)),(8,v4),(9,(ptr b6 0)),(10,(ptr b8 0)),(11,(.func (.func 122) #[] #[(ptr b2 0),(ptr b1 0),(ptr b8 0),(ptr b3 0),(ptr b6 0)])),(12,(ptr b10 0)),(13,(.bool x8)),(25,(.bool x8)),(31,(.slice (some ⟨b5,0,none⟩) (Int.toNat (List.length a2:Int)) (Int.toNat (List.length a2:Int)))),(32,(ptr b10 0)),(33,(I x6)),(34,(ptr b11 (Int.toNat x6 * Rep.sz Bool))),(37,(ptr b10 0))]) ⟨z,z,z,z,z,z,z,z,z,z,z,z,z,Ai⟩<|Bw [⟨0,[],fun vs=>Bh v3,[]⟩,⟨1,[],fun vs=>Bh u2,[]⟩,⟨3,[],fun vs=>Bh (I x6),[]⟩,⟨4,[],fun vs=>Ci [] w0 x13,[]⟩,⟨5,[],fun vs=>Ci [] w0 x13.2,[]⟩,⟨6,[],fun vs=>Ct [] w0 x13.2,[]⟩] [[],[],[],[1,3],[4],[5]] 2 z (by kernel_rfl) (by kernel_rfl) z ?_ ?_
    ·refine An z ?_ ?_
     ·intro w18 hB13
      refine Ar<|⟨_,z,?_⟩
      exact Ao (hC24.grow hB13) 1 z z AQ z z<|Ac<|Ay (Al _ _) z z ⟨z,z⟩
     refine An z ?_ ?_
     ·intro w18 hB13
      refine Ar<|⟨_,z,?_⟩
      exact Ao (hC24.grow hB13) 7 z z Ba z z<|Ac<|Ay (Al _ _) z z ⟨z,z⟩
     refine An z ?_ ?_
     ·intro w18 hB13
      refine Ar<|⟨_,z,?_⟩
      exact Ao (hC24.grow hB13) 0 z z Bl z z<|Ac<|Ay (Al _ _) z z ⟨z,z⟩
     refine An z ?_ ?_
     ·intro w18 hB13
      refine AK z z z ?_
      rintro _ _ ⟨rfl,rfl⟩ _
      refine AK z z z ?_
      rintro _ _ ⟨rfl,rfl⟩ _
      refine Ar<|⟨_,z,?_⟩
      exact AG Ax ty84 g2 hx3 z z z fun b12 o1 h1=>Ac<|Ay (Al _ _) z z ⟨z,_,_,z,h1⟩
     refine An z ?_ ?_
     ·intro w18 hB13
      refine AK z z z ?_
      rintro _ _ ⟨rfl,b12,o1,rfl,h1⟩ _
      refine Ar<|⟨_,z,?_⟩
      exact fd AB Aw z z z z<|Ac<|Ay (Al _ _) z z ⟨z,_,_,z,h1.snd⟩
     refine An z ?_ ?_
     ·intro w18 hB13
      refine AK z z z ?_
      rintro _ _ ⟨rfl,b13,o2,rfl,h2⟩ _
      refine Ar<|⟨_,z,?_⟩
      exact A3 ty22 h2 (hC24.keep.then hB13) z z fun v7 h3=>Ac<|Ay (Al _ _) z z ⟨z,h3⟩
     exact Bp
    intro w19 hB14
    refine At z z z ?_
    rintro _ _ ⟨rfl,rfl⟩
    refine At z z z ?_
    rintro _ _ ⟨rfl,rfl⟩
    refine At z z z ?_
    rintro _ _ ⟨rfl,rfl⟩
    refine At z z z ?_
    rintro _ _ ⟨rfl,b12,o1,rfl,h1⟩
    refine At z z z ?_
    rintro _ _ ⟨rfl,b13,o2,rfl,h2⟩
    refine At z z z ?_
    rintro v7 _ ⟨rfl,h3⟩
    refine B0 fun hn2 hb2=>have hC25:=hC24.grow hB14;be hL1 fun x14 hx4 hL1=>oe 7 z<|Bi (α:=Int) hC25 2 z h3 hC25.keep Ah ty3 z hx4 z z z fun v8 w20 hC26=>?_
    try dsimp only [List.set] at hC26
    refine Ac<|oe 8 z<|B3 (cs':=[v8]) hC26 1 z z (Bz (hC26.ro 2 z)) z Aw z z fun w21 hC27 hKp5=>?_
    try dsimp only [List.set] at hC27
    refine Ac<|dn<|Am<|Bb<|Ag z z<|A9 [(I x6),(I x7)] hC27 0 z z z CA BI z z<|A2 (vs:=[(.agg #[(I x6),(I x7)])]) hC27 A5 ty75 z z z z (fac z<|fa0) z z fun b14 w22 hC28 hB15=>?_
    have hC29:=hC28.row0 (α:=(Int × Int))
    have hC30:=C5 x6 x7 hC29
    have hC31:=hC30.row1
    have hC32:=hC31.front 1 z
    dsimp only [List.eraseIdx,List.cons_append,List.nil_append,List.append_nil] at hC32
    have hC33:Ctx [] w0 w22 (Ab (.slice (some ⟨b14,0,none⟩) 1 1) ([(x6,x7)]:List (Int × Int))::[Af b10 [(I x6),(I x7)],Af b8 [v8],Ab v8 (x14:(List Int)),Af b6 [(.slice (some ⟨b5,0,none⟩) (Int.toNat (List.length a2:Int)) (Int.toNat (List.length a2:Int)))],Ab (.slice (some ⟨b5,0,none⟩) (Int.toNat (List.length a2:Int)) (Int.toNat (List.length a2:Int))) ((List.set x3 (Int.toNat x6) true):(List Bool)),Ab v4 (x5:(List (Int × Int))),Af b3 [(.func (.func 95) #[] #[(ptr pb1 0)])],Af b2 [u2],Af b1 [u1]]):=hC32.rowOwn (by simp [maxLen])
    refine be hL1 fun x15 hx5 hL1=>Bi (α:=(Int × Int)) hC33 6 z (hC33.ro 0 z) (Aq _ _) A5 ty75 z hx5 z z z fun v9 w23 hC34=>?_
    try dsimp only [List.set] at hC34
    refine Ae z z<|Ac<|AM<|Am<|A6<|Ad<|A9 [(I x6),(I x7)] hC34 1 z z z CA BI z z<|Ac<|Bb<|By hC34 zero75 z z fun b15 w24 hC35 hB16 hN7=>AO (cs':=[(I x6),(I x7)]) (new:=[(I x6),(I x7)]) hC35 0 z z (fac z<|fac z<|fa0) z BI z z fun w25 hC36 hKp6=>?_
    try dsimp only [List.set] at hC36
    have hk25:=AY (Ap hB16) hN7 hKp6
    refine Ac<|Am<|Bb<|Ag z z<|be hL1 fun x16 hr3 hL1=>BH (cap:=[(ptr b2 0),(ptr b1 0),(ptr b8 0),(ptr b3 0),(ptr b6 0)]) Tryz.call122 z z z (c_M_greedyWhere_c1_M_privateOrder_c1 b2 a2 (hC36.boxAt 9 z (repw_slice (g2.now hC36.keep))) b1 a1 (hC36.boxAt 10 z (repw_slice (g1.now hC36.keep))) b8 x14 (hC36.boxAt 3 z (repw_slice (hC36.ro 4 z))) pb1 ax1 (g3.now hC36.keep) b3 (hC36.boxAt 8 z repw_raw) b6 (List.set x3 (Int.toNat x6) true) (hC36.boxAt 5 z (repw_slice (hC36.ro 6 z))) x16 hr3)<|?_
    rintro _ w26 ⟨hB17,v10,v11,F3,F4,rfl,hv3,hv4,hn3,hb3⟩
    obtain ⟨rfl,rfl⟩:=val_bool hv4
    have hC37:=hC36.pushL hB17 (Bs:=[Ab v10 x16.1]) (Fs:=[F3]) ⟨F3,_,z,hv3,z⟩ (by simpa using hn3) (fun b h=>hb3 b (by simpa using h))
    obtain ⟨rfl,hC38⟩:=st75_own hC37
    refine Ag z z<|AF z z z<|AF z z z<|AO (cs':=[(I x16.1.1),(I x16.1.2)]) (new:=[(I x16.1.1),(I x16.1.2)]) hC38 0 z z (fac z<|fac z<|fa0) z BI z z fun w27 hC39 hKp7=>?_
    try dsimp only [List.set] at hC39
    have hk26:=AY (hk25.then hB17) hN7 hKp7
    exact Ae z z<|Ac<|have hC40:=hC39.f10;have hC41:=hC40.f10;have hC42:=hC41.f10;have hC43:=hC42.f10;have hC44:=hC43.f10;have hC45:=hC44.f10;have hC46:=hC45.f10;have hC47:=hC46.f10;have hC48:=hC47.f8;have hC49:=hC48.h9;Ak (l':=[(4,(ptr b2 0)),(8,v9),(9,(ptr b6 0)),(10,(ptr b8 0)),(11,(.func (.func 122) #[] #[(ptr b2 0),(ptr b1 0),(ptr b8 0),(ptr b3 0),(ptr b6 0)])),(12,(ptr b15 0)),(13,(.bool x16.2))]) ⟨z,z,z,z,z,z,z,Ai⟩<|⟨k1,Av _,(List.set x3 (Int.toNat x6) true),v8,x14,v9,x15,b15,x16.1.1,x16.1.2,x16.2,z,hC49,hL1⟩
   replace hL1:=AD hL1 hc1
   refine Bt (A1 (A1 (Be ?_)))
   obtain rfl:=Aa hL1
   have hC50:=hC21.f5
   have hC51:=hC50.f5
   have hC52:=hC51.f5
   have hC53:=hC52.h3
   exact Ak (l':=[(8,v4),(9,(ptr b6 0))]) ⟨z,z,Ai⟩<|⟨x3,v3,x4,v4,x5,z,z,hC53⟩
 rintro l2 _ w28 hs2 ⟨x9,v5,x10,v6,x11,rfl,rfl,hC54⟩
 try dsimp only at hF
 refine AL hs2 ?_
 clear hs2
 refine A6<|B1 4 z hmix fun w29 hB19=>have hC55:=hC54.grow hB19;tm 0 z z z<|ta 2 z z z<|oe 1 z<|Ao hC55 0 z z Tryz.isAgg107 z z<|Ac<|ta 3 z z z<|dn<|Am<|AP<|?_
 obtain rfl:=Aa hF
 exact Cd z z z<|have hC56:=hC55.f1;have hC57:=hC56.f2;⟨_,z,res2_of hC57⟩
theorem c_M_privateOrder {w0:World} (a1:(List (Int × (List Int) × Int × Int × Int))) (u1:Value) (g1:RO [] w0 u1 a1) (a2:((List Int) × (List (Int × (List Int))))) (u2:Value) (g2:RO [] w0 u2 a2.1) (u3:Value) (g3:RO [] w0 u3 a2.2) (a3:(List Int)) (u4:Value) (g4:RO [] w0 u4 a3) (rr:((List (Int × Int)) × Bool)) (hF:M.privateOrder a1 a2 a3=some rr) :
 Calls Tryz.prog 59 [u1,(.agg #[u2,u3]),u4].toArray w0 fun e w'=>∃v,e=.returned v∧Res2 w0 rr.1 rr.2 v w':=by
 refine Au Tryz.func59 z z ?_
 have hC0:=AA w0
 unfold M.privateOrder at hF
 refine Ad<|Bv (cs:=[u2,u3]) hC0 z z z fun b1 w1 hC1 hB1 hN1=>Bv (cs:=[u4]) hC1 (Cj g4) z z fun b2 w2 hC2 hB2 hN2=>Ae z z<|Ae z z<|Ac<|Ad<|Ag z z<|fd A0 AU z z z z<|Ao hC2 1 z z Ba z z<|BL z z<|be hF fun x1 hr1 hF=>A7 Tryz.call94 z z (c_M_greedyWhere_M_privateOrder_c1 a1 u1 (g1.now hC2.keep) a2.2 u3 (g3.now hC2.keep) b2 a3 (hC2.boxAt 0 z (repw_slice (g4.now hC2.keep))) x1 hr1)<|?_
 rintro _ w3 ⟨hB3,v1,v2,F1,F2,rfl,hv1,hv2,hn1,hb1⟩
 have hC3:=hC2.pushL hB3 (Bs:=[Ab v1 x1.1,Ab v2 x1.2]) (Fs:=[F1,F2]) ⟨F1,_,z,hv1,F2,_,z,hv2,z⟩ (by simpa using hn1) (fun b h=>hb1 b (by simpa using h))
 refine Ag z z<|AF z z z<|AF z z z<|Ae z z<|Ae z z<|Ac<|A6<|B1 9 z hmix fun w4 hB4=>have hC4:=hC3.grow hB4;tm 0 z z z<|tm 1 z z z<|tk 2 z z (CJ A5 (hC4.ro 0 z) z)<|AZ A5 (hC4.ro 0 z) z z<|Ac<|tf 3 A0 AU z z z z z<|ta 7 z z z<|oe 4 z<|Ao hC4 3 z z Ba z z<|Ac<|tk 5 z z (CJ Ax g3 z)<|AZ Ax g3 z z<|Ac<|tk 6 z z (fl_eql z z)<|BT z z z<|Ac<|ta 8 z z z<|dn<|Am<|AP<|?_
 obtain rfl:=Aa hF
 refine Cd z z z ?_
 have hC5:=hC4.triv (BK ((decide ((List.length x1.1:Int)=(List.length a2.2:Int)))))
 have hC6:=hC5.f1
 exact ⟨_,z,res2_of hC6⟩
theorem c_M_FindPrivateOrder {w0:World} (a1:(List Int)) (u1:Value) (g1:RO [] w0 u1 a1) (a2:(List (Int × (List Int) × Int × Int × Int))) (u2:Value) (g2:RO [] w0 u2 a2) (a3:((List Int) × (List (Int × (List Int))))) (u3:Value) (g3:RO [] w0 u3 a3.1) (u4:Value) (g4:RO [] w0 u4 a3.2) (a4:(List Int)) (u5:Value) (g5:RO [] w0 u5 a4) (rr:((List (Int × Int)) × Bool)) (hF:M.FindPrivateOrder a1 a2 a3 a4=some rr) :
 Calls Tryz.prog 21 [u1,u2,(.agg #[u3,u4]),u5].toArray w0 fun e w'=>∃v,e=.returned v∧Res2 w0 rr.1 rr.2 v w':=by
 refine Au Tryz.func21 z z ?_
 have hC0:=AA w0
 unfold M.FindPrivateOrder at hF
 refine Ad<|Bv (cs:=[u3,u4]) hC0 z z z fun b1 w1 hC1 hB1 hN1=>Ae z z<|Ae z z<|Ac<|A6<|Ad<|Ag z z<|Ag z z<|A9 [u3,u4] hC1 0 z z z AT A4 z z<|be hF fun x1 hr1 hF=>cb Tryz.call58 z z (c_M_areAsked a1 u1 (g1.now hC1.keep) a2 u2 (g2.now hC1.keep) (a3.1,a3.2) u3 (g3.now hC1.keep) u4 (g4.now hC1.keep) x1 hr1) fun w2 hB2=>have hC2:=hC1.grow hB2;Bx z z<|Ac<|AI z (fun hc1=>?_) (fun hc1=>?_)
 ·replace hF:=AC hF hc1
  refine Ad<|Ae z z<|Ae z z<|Ac<|AP<|Az<|?_
  obtain rfl:=Aa hF
  refine Cd z z z ?_
  have hC3:=hC2.triv (BK (false))
  have hC4:=hC3.triv (nil_val (α:=(Int × Int)))
  exact ⟨_,z,res2_of hC4⟩
 replace hF:=AD hF hc1
 refine AJ<|Am<|Ad<|Ag z z<|A9 [u3,u4] hC2 0 z z z AT A4 z z<|Ag z z<|be hF fun x2 hr2 hF=>A7 B6 z z (c_M_privateOrder a2 u2 (g2.now hC2.keep) (a3.1,a3.2) u3 (g3.now hC2.keep) u4 (g4.now hC2.keep) a4 u5 (g5.now hC2.keep) x2 hr2)<|?_
 rintro _ w3 ⟨hB3,v1,v2,F1,F2,rfl,hv2,hv3,hn1,hb1⟩
 obtain ⟨rfl,rfl⟩:=val_bool hv3
 have hC5:=hC2.pushL hB3 (Bs:=[Ab v1 x2.1]) (Fs:=[F1]) ⟨F1,_,z,hv2,z⟩ (by simpa using hn1) (fun b h=>hb1 b (by simpa using h))
 refine Ag z z<|AF z z z<|AF z z z<|Ae z z<|Ae z z<|Ac<|A6<|Ad<|Ag z z<|Bx z z<|Ac<|AI z (fun hc2=>?_) (fun hc2=>?_)
 ·replace hF:=AC hF hc2
  refine Ad<|Ae z z<|Ae z z<|Ac<|AP<|Az<|?_
  obtain rfl:=Aa hF
  refine Cd z z z ?_
  have hC6:=hC5.triv (BK (false))
  have hC7:=hC6.triv (nil_val (α:=(Int × Int)))
  exact ⟨_,z,res2_of hC7⟩
 replace hF:=AD hF hc2
 refine AJ<|Am<|Ad<|Ag z z<|Ae z z<|Ae z z<|Ac<|AP<|?_
 obtain rfl:=Aa hF
 refine Cd z z z ?_
 have hC8:=hC5.triv (BK (true))
 have hC9:=hC8.f1
 exact ⟨_,z,res2_of hC9⟩
theorem c_S_ConstantsOf {w0:World} (a1:((List Int) × (List (Int × (List Int))))) (u1:Value) (g1:RO [] w0 u1 a1.1) (u2:Value) (g2:RO [] w0 u2 a1.2) (rr:(List Int)) (hF:S.ConstantsOf a1=some rr) :
 Calls Tryz.prog 61 [(.agg #[u1,u2])].toArray w0 fun e w'=>∃v,e=.returned v∧Res w0 rr v w':=by
 refine Au Tryz.func61 z z ?_
 have hC0:=AA w0
 unfold S.ConstantsOf at hF
 refine Ad<|Bv (cs:=[u1,u2]) hC0 z z z fun b1 w1 hC1 hB1 hN1=>Ae z z<|Ac<|Ad<|A2 (vs:=[]) hC1 Ah ty3 z z z z (by simp) z z fun b2 w2 hC2 hB2=>?_
 have hC3:=hC2.row0 (α:=Int)
 have hC4:=hC3.front 1 z
 dsimp only [List.eraseIdx,List.cons_append,List.nil_append,List.append_nil] at hC4
 have hC5:Ctx [] w0 w2 (Ab (.slice (some ⟨b2,0,none⟩) 0 0) (([]:List Int):List Int)::[Af b1 [u1,u2]]):=hC4.rowOwn (by simp [maxLen])
 refine Ae z z<|Ac<|A6<|Ad<|Ae z z<|Ac<|be hF fun r1 hr1 hF=>Bd (fun l w=>∃v2:Value,∃x3:(List Int),x3=r1∧l=[(3,v2)]∧Ctx [] w0 w [Ab v2 (x3:(List Int))]) ?_ ?_
 ·refine AH<|wS (l':=[(1,(ptr b1 0)),(3,(.slice (some ⟨b2,0,none⟩) 0 0)),(4,(I 0))]) ⟨z,z,z,Ai⟩<|Bu (fun k l w=>∃v1:Value,∃x1:(List Int),∃x2:Int,l=[(1,(ptr b1 0)),(3,v1),(4,(I x2))]∧Ctx [] w0 w [Ab v1 (x1:(List Int)),Af b1 [u1,u2]]∧S.ConstantsOf_l1 a1 k x1 x2=some r1) FUEL ⟨(.slice (some ⟨b2,0,none⟩) 0 0),([]:List Int),0,z,hC5,hr1⟩<|?_
  clear hr1
  rintro k1 _ w3 ⟨v1,x1,x2,rfl,hC6,hL1⟩
  cases k1 with
  | zero=>rw [S.ConstantsOf_l1] at hL1; cases hL1
  | succ k1 =>
   rw [S.ConstantsOf_l1] at hL1
   refine A6<|Ad<|Ag z z<|fd A0 AU z z z z<|Ao hC6 1 z z Ba z z<|AZ Ax g2 z z<|Bo z z z<|Ac<|AI z (fun hc1=>?_) (fun hc1=>?_)
   ·replace hL1:=AC hL1 hc1
    refine AJ<|Am<|A6<|AH<|Ad<|Ae z z<|Ac<|be hL1 fun r2 hr2 hL1=>Bd (fun l w=>∃v4:Value,∃x6:(List Int),x6=r2∧l=[(1,(ptr b1 0)),(3,v4),(4,(I x2))]∧Ctx [] w0 w [Ab v4 (x6:(List Int)),Af b1 [u1,u2]]) ?_ ?_
    ·refine AH<|wS (l':=[(1,(ptr b1 0)),(3,v1),(4,(I x2)),(5,(I 0))]) ⟨z,z,z,z,Ai⟩<|Bu (fun k l w=>∃v3:Value,∃x4:(List Int),∃x5:Int,l=[(1,(ptr b1 0)),(3,v3),(4,(I x2)),(5,(I x5))]∧Ctx [] w0 w [Ab v3 (x4:(List Int)),Af b1 [u1,u2]]∧S.ConstantsOf_l2 a1 x2 k x4 x5=some r2) FUEL ⟨v1,x1,0,z,hC6,hr2⟩<|?_
     clear hr2
     rintro k2 _ w4 ⟨v3,x4,x5,rfl,hC7,hL2⟩
     cases k2 with
     | zero=>rw [S.ConstantsOf_l2] at hL2; cases hL2
     | succ k2 =>
      rw [S.ConstantsOf_l2] at hL2
      refine A6<|Ad<|Ag z z<|fd A0 AU z z z z<|Ao hC7 1 z z Ba z z<|Ag z z<|be hL2 fun x7 hx1 hL2=>AG Ax ty84 g2 hx1 z z z fun b3 o1 h1=>fd AB Aw z z z z<|A3 ty22 h1.snd hC7.keep z z fun v5 h2=>AZ Ah h2 z z<|Bo z z z<|Ac<|AI z (fun hc2=>?_) (fun hc2=>?_)
      ·replace hL2:=AC hL2 hc2
       refine AJ<|Am<|A6<|AH<|Ad<|fd A0 AU z z z z<|Ao hC7 1 z z Ba z z<|Ag z z<|be hL2 fun x8 hx2 hL2=>AG Ax ty84 g2 hx2 z z z fun b4 o2 h3=>fd AB Aw z z z z<|A3 ty22 h3.snd hC7.keep z z fun v6 h4=>Ag z z<|be hL2 fun x9 hx3 hL2=>AG Ah ty3 h4 hx3 z z z fun b5 o3 h5=>A3 ty3 h5 hC7.keep z z fun v7 h6=>?_
       obtain rfl:=Bn h6
       refine be hL2 fun x10 hr3 hL2=>cb B9 z z (c_S_l1In x9 0 9 x10 hr3) fun w5 hB5=>have hC8:=hC7.grow hB5;Ac<|be hL2 fun r3 hr4 hL2=>Bd (fun l w=>∃v8:Value,∃x11:(List Int),x11=r3∧l=[(1,(ptr b1 0)),(3,v8),(4,(I x2)),(5,(I x5))]∧Ctx [] w0 w [Ab v8 (x11:(List Int)),Af b1 [u1,u2]]) ?_ ?_
       ·refine AI z (fun hc3=>?_) (fun hc3=>?_)
        ·replace hr4:=AC hr4 hc3
         refine Bb<|Ag z z<|fd A0 AU z z z z<|Ao hC8 1 z z Ba z z<|Ag z z<|be hr4 fun x12 hx4 hr4=>AG Ax ty84 g2 hx4 z z z fun b6 o4 h7=>fd AB Aw z z z z<|A3 ty22 h7.snd hC8.keep z z fun v9 h8=>Ag z z<|be hr4 fun x13 hx5 hr4=>AG Ah ty3 h8 hx5 z z z fun b7 o5 h9=>A3 ty3 h9 hC8.keep z z fun v10 h10=>?_
         obtain rfl:=Bn h10
         obtain ⟨x14,hr5,hr4⟩:=BX hr4
         obtain ⟨Fs1,hH1,hn1,hF1,hO1,hb1⟩:=AW (As:=[Af b1 [u1,u2]]) [Ab v3 (x4:(List Int))] hC8
         refine A7 C2 z z (c_S_l3Put_own x4 v3 x13 hH1 hn1 x14 hr5) ?_
         rintro v11 w7 ⟨_,rfl,hq1⟩
         have hC11:Ctx [] w0 w7 [Ab v11 (x14:(List Int)),Af b1 [u1,u2]]:=hb1 _ _ hq1
         refine Ae z z<|Ac<|?_
         obtain rfl:=Aa hr4
         exact Ak (l':=[(1,(ptr b1 0)),(3,v11),(4,(I x2)),(5,(I x5))]) ⟨z,z,z,z,Ai⟩<|⟨v11,x14,z,z,hC11⟩
        replace hr4:=AD hr4 hc3
        refine AJ ?_
        obtain rfl:=Aa hr4
        exact Ak (l':=[(1,(ptr b1 0)),(3,v3),(4,(I x2)),(5,(I x5))]) ⟨z,z,z,z,Ai⟩<|⟨v3,x4,z,z,hC8⟩
       rintro l3 _ w6 hs3 ⟨v8,x11,rfl,rfl,hC9⟩
       try dsimp only at hL2
       refine AM<|AL hs3<|?_
       clear hs3
       exact Bb<|Ag z z<|Bj z z z<|Ae z z<|Ac<|Ak (l':=[(1,(ptr b1 0)),(3,v8),(4,(I x2)),(5,(I (w64 (x5+1))))]) ⟨z,z,z,z,Ai⟩<|⟨k2,Av _,v8,x11,w64 (x5+1),z,hC9,hL2⟩
      replace hL2:=AD hL2 hc2
      refine Bt (A1 (A1 (Be ?_)))
      obtain rfl:=Aa hL2
      exact Ak (l':=[(1,(ptr b1 0)),(3,v3),(4,(I x2))]) ⟨z,z,z,Ai⟩<|⟨v3,x4,z,z,hC7⟩
    rintro l4 _ w9 hs4 ⟨v4,x6,rfl,rfl,hC12⟩
    try dsimp only at hL1
    refine AM<|AL hs4<|?_
    clear hs4
    exact Bb<|Ag z z<|Bj z z z<|Ae z z<|Ac<|Ak (l':=[(1,(ptr b1 0)),(3,v4),(4,(I (w64 (x2+1))))]) ⟨z,z,z,Ai⟩<|⟨k1,Av _,v4,x6,w64 (x2+1),z,hC12,hL1⟩
   replace hL1:=AD hL1 hc1
   refine Bt (A1 (A1 (Be ?_)))
   obtain rfl:=Aa hL1
   have hC13:=hC6.h1
   exact Ak (l':=[(3,v1)]) ⟨z,Ai⟩<|⟨v1,x1,z,z,hC13⟩
 rintro l5 _ w10 hs5 ⟨v2,x3,rfl,rfl,hC14⟩
 try dsimp only at hF
 refine AL hs5 ?_
 clear hs5
 refine Ad<|Ag z z<|Ae z z<|Ac<|AP<|?_
 obtain rfl:=Aa hF
 exact A8 z z<|⟨_,z,Co hC14 0 z⟩
theorem c_S_l4Less {w0:World} (a1:(List Int)) (u1:Value) (g1:RO [] w0 u1 a1) (a2:(List Int)) (u2:Value) (g2:RO [] w0 u2 a2) (rr:Bool) (hF:S.l4Less a1 a2=some rr) :
 Calls Tryz.prog 96 [u1,u2].toArray w0 fun e w'=>∃v,e=.returned v∧Res w0 rr v w':=by
 refine Au Tryz.func96 z z ?_
 have hC0:=AA w0
 unfold S.l4Less at hF
 refine Ad<|Ae z z<|Ac<|A6<|Ad<|Ae z z<|Ac<|be hF fun r1 hr1 hF=>Bd (fun l w=>.inl ()=r1∧l=[(0,u1),(1,u2)]∧Below w0.heap.size w0 w∧Ctx [] w0 w []) ?_ ?_
 ·refine AH<|wS (l':=[(0,u1),(1,u2),(5,(I 0))]) ⟨z,z,z,Ai⟩<|Bu (fun k l w=>∃x1:Int,l=[(0,u1),(1,u2),(5,(I x1))]∧Below w0.heap.size w0 w∧Ctx [] w0 w []∧S.l4Less_l1 a1 a2 k x1=some r1) FUEL ⟨0,z,(Al _ _),hC0,hr1⟩<|?_
  clear hr1
  rintro k1 _ w1 ⟨x1,rfl,hB1,hC1,hL1⟩
  cases k1 with
  | zero=>rw [S.l4Less_l1] at hL1; cases hL1
  | succ k1 =>
   rw [S.l4Less_l1] at hL1
   refine A6<|be hL1 fun r2 hr2 hL1=>BA (fun l w=>∃x2:Bool,x2=r2∧l=[(0,u1),(1,u2),(5,(I x1)),(15,(.bool x2))]∧Below w1.heap.size w1 w∧Ctx [] w0 w []) ?_ ?_
   ·refine Bb<|Ag z z<|Ag z z<|AZ Ah g1 z z<|Bo z z z<|Ag z z<|Br (fun hc1=>?_) (fun hc1=>?_)
    ·replace hr2:=AC hr2 hc1
     refine Aj z z<|Ag z z<|Aj z z<|Ag z z<|Aj z z<|AZ Ah g2 z z<|Aj z z<|Bo z z z<|AV z z z<|Ac<|?_
     obtain rfl:=Aa hr2
     exact Ak (l':=[(0,u1),(1,u2),(5,(I x1)),(15,(.bool (decide (x1 < (List.length a2:Int)))))]) ⟨z,z,z,z,Ai⟩<|⟨(decide (x1 < (List.length a2:Int))),z,z,(Al _ _),hC1⟩
    replace hr2:=AD hr2 hc1
    refine gs z z z z<|gs z z z z<|gs z z z z<|gs z z z z<|AS z z z<|Ac<|?_
    obtain rfl:=Aa hr2
    exact Ak (l':=[(0,u1),(1,u2),(5,(I x1)),(15,(.bool false))]) ⟨z,z,z,z,Ai⟩<|⟨false,z,z,(Al _ _),hC1⟩
   rintro _ w2 ⟨x2,rfl,rfl,hB2,hC2⟩
   try dsimp only at hL1
   refine AI z (fun hc2=>?_) (fun hc2=>?_)
   ·replace hL1:=AC hL1 hc2
    refine AJ<|Am<|A6<|AH<|A6<|B1 9 z hmix fun w3 hB3=>have hC3:=hC2.grow hB3;tm 0 z z z<|tm 1 z z z<|be hL1 fun x3 hx1 hL1=>tk 2 z z (B4 Ah ty3 g1 hx1 z z)<|AG Ah ty3 g1 hx1 z z z fun b1 o1 h1=>Ac<|tm 4 z z z<|tm 5 z z z<|be hL1 fun x4 hx2 hL1=>tk 6 z z (B4 Ah ty3 g2 hx2 z z)<|AG Ah ty3 g2 hx2 z z z fun b2 o2 h2=>Ac<|wAS (l':=[(0,u1),(1,u2),(5,(I x1)),(15,(.bool x2)),(18,u1),(19,(I x1)),(20,(ptr b1 o1)),(22,u2),(23,(I x1)),(24,(ptr b2 o2))]) ⟨z,z,z,z,z,z,z,z,z,z,Ai⟩<|Bw [⟨3,[],fun vs=>Bh (I x3),[]⟩,⟨7,[],fun vs=>Bh (I x4),[]⟩] [[],[]] 1 z (by kernel_rfl) (by kernel_rfl) z ?_ ?_
    ·refine An z ?_ ?_
     ·intro w4 hB4
      refine Ar<|⟨_,z,?_⟩
      refine A3 ty3 h1 (hC3.keep.then hB4) z z (fun v1 h3=>?_)
      obtain rfl:=Bn h3
      exact Ac<|Ay (Al _ _) z z ⟨z,z⟩
     refine An z ?_ ?_
     ·intro w4 hB4
      refine Ar<|⟨_,z,?_⟩
      refine A3 ty3 h2 (hC3.keep.then hB4) z z (fun v2 h4=>?_)
      obtain rfl:=Bn h4
      exact Ac<|Ay (Al _ _) z z ⟨z,z⟩
     exact Bp
    intro w5 hB5
    refine At z z z ?_
    rintro _ _ ⟨rfl,rfl⟩
    refine At z z z ?_
    rintro _ _ ⟨rfl,rfl⟩
    refine B0 fun hn1 hb1=>have hC4:=hC3.grow hB5;tk 8 z z (fl_neq z z)<|C4 z z z<|Ac<|dn<|Am<|AI z (fun hc3=>?_) (fun hc3=>?_)
    ·replace hL1:=AC hL1 hc3
     refine A6<|B1 10 z hmix fun w6 hB6=>have hC5:=hC4.grow hB6;tm 0 z z z<|tm 1 z z z<|be hL1 fun x5 hx3 hL1=>tk 2 z z (B4 Ah ty3 g1 hx3 z z)<|AG Ah ty3 g1 hx3 z z z fun b3 o3 h5=>Ac<|tm 4 z z z<|tm 5 z z z<|be hL1 fun x6 hx4 hL1=>tk 6 z z (B4 Ah ty3 g2 hx4 z z)<|AG Ah ty3 g2 hx4 z z z fun b4 o4 h6=>Ac<|wAS (l':=[(0,u1),(1,u2),(5,(I x1)),(15,(.bool x2)),(18,u1),(19,(I x1)),(20,(ptr b1 o1)),(21,(I x3)),(22,u2),(23,(I x1)),(24,(ptr b2 o2)),(25,(I x4)),(26,(.bool (!decide (x3=x4)))),(27,u1),(28,(I x1)),(29,(ptr b3 o3)),(31,u2),(32,(I x1)),(33,(ptr b4 o4))]) ⟨z,z,z,z,z,z,z,z,z,z,z,z,z,z,z,z,z,z,z,Ai⟩<|Bw [⟨3,[],fun vs=>Bh (I x5),[]⟩,⟨7,[],fun vs=>Bh (I x6),[]⟩] [[],[]] 2 z (by kernel_rfl) (by kernel_rfl) z ?_ ?_
     ·refine An z ?_ ?_
      ·intro w7 hB7
       refine Ar<|⟨_,z,?_⟩
       refine A3 ty3 h5 (hC5.keep.then hB7) z z (fun v3 h7=>?_)
       obtain rfl:=Bn h7
       exact Ac<|Ay (Al _ _) z z ⟨z,z⟩
      refine An z ?_ ?_
      ·intro w7 hB7
       refine Ar<|⟨_,z,?_⟩
       refine A3 ty3 h6 (hC5.keep.then hB7) z z (fun v4 h8=>?_)
       obtain rfl:=Bn h8
       exact Ac<|Ay (Al _ _) z z ⟨z,z⟩
      exact Bp
     intro w9 hB8
     refine At z z z ?_
     rintro _ _ ⟨rfl,rfl⟩
     refine At z z z ?_
     rintro _ _ ⟨rfl,rfl⟩
     refine B0 fun hn2 hb2=>have hC6:=hC5.grow hB8;tk 8 z z (fl_lss z z)<|Bo z z z<|Ac<|ta 9 z z z<|dn<|Am<|AP<|Bk<|Az<|Az<|Bk<|Az<|Az<|?_
     obtain rfl:=Aa hL1
     dsimp only at hF
     obtain rfl:=Aa hF
     exact A8 z z<|⟨_,z,AR hC6 _⟩
    replace hL1:=AD hL1 hc3
    exact AJ<|AM<|Am<|Bb<|Ag z z<|Bj z z z<|Ae z z<|Ac<|Ak (l':=[(0,u1),(1,u2),(5,(I (w64 (x1+1))))]) ⟨z,z,z,Ai⟩<|⟨k1,Av _,w64 (x1+1),z,((((Ap hB1).then hB2).then hB3).then hB5).below,hC4,hL1⟩
   replace hL1:=AD hL1 hc2
   refine Bt (A1 (A1 (Be ?_)))
   obtain rfl:=Aa hL1
   exact Ak (l':=[(0,u1),(1,u2)]) ⟨z,z,Ai⟩<|⟨z,z,((Ap hB1).then hB2).below,hC2⟩
 rintro l3 _ w10 hs3 ⟨rfl,rfl,hB9,hC7⟩
 try dsimp only at hF
 refine AL hs3 ?_
 clear hs3
 refine Ad<|Ag z z<|AZ Ah g1 z z<|Ag z z<|AZ Ah g2 z z<|Bo z z z<|Ae z z<|Ac<|AP<|?_
 obtain rfl:=Aa hF
 exact A8 z z<|⟨_,z,AR hC7 _⟩
theorem c_S_l15Less {w0:World} (a1:(List Int)) (u1:Value) (g1:RO [] w0 u1 a1) (a2:(List Int)) (u2:Value) (g2:RO [] w0 u2 a2) (rr:Bool) (hF:S.l15Less a1 a2=some rr) :
 Calls Tryz.prog 62 [u1,u2].toArray w0 fun e w'=>∃v,e=.returned v∧Res w0 rr v w':=by
 refine Au Tryz.func62 z z ?_
 have hC0:=AA w0
 unfold S.l15Less at hF
 refine Ad<|Ae z z<|Ac<|A6<|Ad<|Ag z z<|AZ Ah g1 z z<|Ag z z<|AZ Ah g2 z z<|C4 z z z<|Ac<|AI z (fun hc1=>?_) (fun hc1=>?_)
 ·replace hF:=AC hF hc1
  refine Ad<|Ag z z<|AZ Ah g1 z z<|Ag z z<|AZ Ah g2 z z<|Bo z z z<|Ae z z<|Ac<|AP<|Az<|?_
  obtain rfl:=Aa hF
  exact A8 z z<|⟨_,z,AR hC0 _⟩
 replace hF:=AD hF hc1
 refine AJ<|Am<|Ad<|Ag z z<|Ag z z<|be hF fun x1 hr1 hF=>cb Tryz.call96 z z (c_S_l4Less a1 u1 (g1.now hC0.keep) a2 u2 (g2.now hC0.keep) x1 hr1) fun w1 hB1=>have hC1:=hC0.grow hB1;Ae z z<|Ac<|AP<|?_
 obtain rfl:=Aa hF
 exact A8 z z<|⟨_,z,AR hC1 _⟩
theorem c_S_LeastDisclosure {w0:World} (a1:(List Int)) (u1:Value) (g1:RO [] w0 u1 a1) (a2:(List (Int × (List Int) × Int × Int × Int))) (u2:Value) (g2:RO [] w0 u2 a2) (a3:((List Int) × (List (Int × (List Int))))) (u3:Value) (g3:RO [] w0 u3 a3.1) (u4:Value) (g4:RO [] w0 u4 a3.2) (a4:(List Int)) (u5:Value) (g5:RO [] w0 u5 a4) (rr:((List Int) × Bool)) (hF:S.LeastDisclosure a1 a2 a3 a4=some rr) :
 Calls Tryz.prog 27 [u1,u2,(.agg #[u3,u4]),u5].toArray w0 fun e w'=>∃v,e=.returned v∧Res2 w0 rr.1 rr.2 v w':=by
 refine Au Tryz.func27 z z ?_
 have hC0:=AA w0
 unfold S.LeastDisclosure at hF
 refine Ad<|Bv (cs:=[u3,u4]) hC0 z z z fun b1 w1 hC1 hB1 hN1=>Ae z z<|Ae z z<|Ac<|Ad<|A2 (vs:=[]) hC1 Ah ty3 z z z z (by simp) z z fun b2 w2 hC2 hB2=>?_
 have hC3:=hC2.row0 (α:=Int)
 have hC4:=hC3.front 1 z
 dsimp only [List.eraseIdx,List.cons_append,List.nil_append,List.append_nil] at hC4
 have hC5:Ctx [] w0 w2 (Ab (.slice (some ⟨b2,0,none⟩) 0 0) (([]:List Int):List Int)::[Af b1 [u3,u4]]):=hC4.rowOwn (by simp [maxLen])
 refine Ae z z<|Ac<|Ad<|Ae z z<|Ac<|Ad<|A9 [u3,u4] hC5 1 z z z AT A4 z z<|be hF fun x1 hr1 hF=>A7 Tryz.call61 z z (c_S_ConstantsOf (a3.1,a3.2) u3 (g3.now hC5.keep) u4 (g4.now hC5.keep) x1 hr1)<|?_
 rintro v1 w3 ⟨hB3,F1,hv1,hn1,hb1⟩
 have hC6:=hC5.push hB3 (A:=Ab v1 x1) hv1 hn1 hb1
 refine Ae z z<|Ac<|A6<|be hF fun r1 hr2 hF=>BA (fun l w=>∃x2:Bool,x2=r1∧l=[(0,u1),(1,u2),(3,u5),(6,(ptr b1 0)),(10,(.slice (some ⟨b2,0,none⟩) 0 0)),(11,(.bool false)),(12,v1),(31,(.bool x2))]∧Below w3.heap.size w3 w∧Ctx [] w0 w [Ab v1 (x1:(List Int)),Ab (.slice (some ⟨b2,0,none⟩) 0 0) (([]:List Int):(List Int)),Af b1 [u3,u4]]) ?_ ?_
 ·refine Bb<|Ag z z<|Ag z z<|A9 [u3,u4] hC6 2 z z z AT A4 z z<|be hr2 fun x3 hr3 hr2=>cb CD z z (c_S_l6Fine a1 u1 (g1.now hC6.keep) a2 u2 (g2.now hC6.keep) (a3.1,a3.2) u3 (g3.now hC6.keep) u4 (g4.now hC6.keep) x3 hr3) fun w5 hB5=>have hC8:=hC6.grow hB5;Bx z z<|Ag z z<|Br (fun hc1=>?_) (fun hc1=>?_)
  ·replace hr2:=AC hr2 hc1
   refine gs z z z z<|gs z z z z<|gs z z z z<|AV z z z<|Ac<|?_
   obtain rfl:=Aa hr2
   exact Ak (l':=[(0,u1),(1,u2),(3,u5),(6,(ptr b1 0)),(10,(.slice (some ⟨b2,0,none⟩) 0 0)),(11,(.bool false)),(12,v1),(31,(.bool true))]) ⟨z,z,z,z,z,z,z,z,Ai⟩<|⟨true,z,z,(Ap hB5).below,hC8⟩
  replace hr2:=AD hr2 hc1
  refine Aj z z<|Ag z z<|Aj z z<|AZ Ah (hC8.ro 0 z) z z<|Aj z z<|C8 z z z<|AS z z z<|Ac<|?_
  obtain rfl:=Aa hr2
  exact Ak (l':=[(0,u1),(1,u2),(3,u5),(6,(ptr b1 0)),(10,(.slice (some ⟨b2,0,none⟩) 0 0)),(11,(.bool false)),(12,v1),(31,(.bool (decide (8 < (List.length x1:Int)))))]) ⟨z,z,z,z,z,z,z,z,Ai⟩<|⟨(decide (8 < (List.length x1:Int))),z,z,(Ap hB5).below,hC8⟩
 rintro _ w4 ⟨x2,rfl,rfl,hB4,hC7⟩
 try dsimp only at hF
 refine AI z (fun hc2=>?_) (fun hc2=>?_)
 ·replace hF:=AC hF hc2
  refine Ad<|Ag z z<|Ae z z<|Ae z z<|Ac<|AP<|Az<|?_
  obtain rfl:=Aa hF
  refine Cd z z z ?_
  have hC9:=hC7.triv (BK (false))
  have hC10:=hC9.f2
  exact ⟨_,z,res2_of hC10⟩
 replace hF:=AD hF hc2
 refine AJ<|Am<|A6<|Ad<|Ae z z<|Ac<|be hF fun r2 hr4 hF=>Bd (fun l w=>∃v3:Value,∃x7:(List Int),∃x8:Bool,(x7,x8)=r2∧l=[(10,v3),(11,(.bool x8))]∧Ctx [] w0 w [Ab v3 (x7:(List Int))]) ?_ ?_
 ·refine AH<|wS (l':=[(0,u1),(1,u2),(3,u5),(6,(ptr b1 0)),(10,(.slice (some ⟨b2,0,none⟩) 0 0)),(11,(.bool false)),(12,v1),(13,(I 0))]) ⟨z,z,z,z,z,z,z,z,Ai⟩<|Bu (fun k l w=>∃v2:Value,∃x4:(List Int),∃x5:Bool,∃x6:Int,l=[(0,u1),(1,u2),(3,u5),(6,(ptr b1 0)),(10,v2),(11,(.bool x5)),(12,v1),(13,(I x6))]∧Ctx [] w0 w [Ab v1 (x1:(List Int)),Ab v2 (x4:(List Int)),Af b1 [u3,u4]]∧S.LeastDisclosure_l1 x1 a4 a1 a2 a3 k x4 x5 x6=some r2) FUEL ⟨(.slice (some ⟨b2,0,none⟩) 0 0),([]:List Int),false,0,z,hC7,hr4⟩<|?_
  clear hr4
  rintro k1 _ w6 ⟨v2,x4,x5,x6,rfl,hC11,hL1⟩
  cases k1 with
  | zero=>rw [S.LeastDisclosure_l1] at hL1; cases hL1
  | succ k1 =>
   rw [S.LeastDisclosure_l1] at hL1
   refine A6<|Ad<|Ag z z<|Ag z z<|AZ Ah (hC11.ro 0 z) z z<|be hL1 fun _ hx1 hL1=>WL_shl (nn_some hx1) z z z<|Bo z z z<|Ac<|AI z (fun hc3=>?_) (fun hc3=>?_)
   ·replace hL1:=AC hL1 hc3
    refine AJ<|Am<|A6<|AH<|Ad<|A2 (vs:=[]) hC11 Ah ty3 z z z z (by simp) z z fun b3 w7 hC12 hB7=>?_
    have hC13:=hC12.row0 (α:=Int)
    have hC14:=hC13.front 1 z
    dsimp only [List.eraseIdx,List.cons_append,List.nil_append,List.append_nil] at hC14
    have hC15:Ctx [] w0 w7 (Ab (.slice (some ⟨b3,0,none⟩) 0 0) (([]:List Int):List Int)::[Ab v1 (x1:(List Int)),Ab v2 (x4:(List Int)),Af b1 [u3,u4]]):=hC14.rowOwn (by simp [maxLen])
    refine Ae z z<|Ac<|Ad<|A2 (vs:=[]) hC15 Ah ty3 z z z z (by simp) z z fun b4 w9 hC16 hB8=>?_
    have hC17:=hC16.row0 (α:=Int)
    have hC18:=hC17.front 1 z
    dsimp only [List.eraseIdx,List.cons_append,List.nil_append,List.append_nil] at hC18
    have hC19:Ctx [] w0 w9 (Ab (.slice (some ⟨b4,0,none⟩) 0 0) (([]:List Int):List Int)::[Ab (.slice (some ⟨b3,0,none⟩) 0 0) (([]:List Int):(List Int)),Ab v1 (x1:(List Int)),Ab v2 (x4:(List Int)),Af b1 [u3,u4]]):=hC18.rowOwn (by simp [maxLen])
    refine Ae z z<|Ac<|A6<|Ad<|Ae z z<|Ac<|be hL1 fun r3 hr5 hL1=>Bd (fun l w=>∃v6:Value,∃x12:(List Int),∃v7:Value,∃x13:(List Int),(x12,x13)=r3∧l=[(0,u1),(1,u2),(3,u5),(6,(ptr b1 0)),(10,v2),(11,(.bool x5)),(12,v1),(13,(I x6)),(14,v6),(15,v7)]∧Ctx [] w0 w [Ab v7 (x13:(List Int)),Ab v6 (x12:(List Int)),Ab v1 (x1:(List Int)),Ab v2 (x4:(List Int)),Af b1 [u3,u4]]) ?_ ?_
    ·refine AH<|wS (l':=[(0,u1),(1,u2),(3,u5),(6,(ptr b1 0)),(10,v2),(11,(.bool x5)),(12,v1),(13,(I x6)),(14,(.slice (some ⟨b3,0,none⟩) 0 0)),(15,(.slice (some ⟨b4,0,none⟩) 0 0)),(16,(I 0))]) ⟨z,z,z,z,z,z,z,z,z,z,z,Ai⟩<|Bu (fun k l w=>∃v4:Value,∃x9:(List Int),∃v5:Value,∃x10:(List Int),∃x11:Int,l=[(0,u1),(1,u2),(3,u5),(6,(ptr b1 0)),(10,v2),(11,(.bool x5)),(12,v1),(13,(I x6)),(14,v4),(15,v5),(16,(I x11))]∧Ctx [] w0 w [Ab v5 (x10:(List Int)),Ab v4 (x9:(List Int)),Ab v1 (x1:(List Int)),Ab v2 (x4:(List Int)),Af b1 [u3,u4]]∧S.LeastDisclosure_l2 x1 a4 x6 k x9 x10 x11=some r3) FUEL ⟨(.slice (some ⟨b3,0,none⟩) 0 0),([]:List Int),(.slice (some ⟨b4,0,none⟩) 0 0),([]:List Int),0,z,hC19,hr5⟩<|?_
     clear hr5
     rintro k2 _ w10 ⟨v4,x9,v5,x10,x11,rfl,hC20,hL2⟩
     cases k2 with
     | zero=>rw [S.LeastDisclosure_l2] at hL2; cases hL2
     | succ k2 =>
      rw [S.LeastDisclosure_l2] at hL2
      refine A6<|Ad<|Ag z z<|Ag z z<|AZ Ah (hC20.ro 2 z) z z<|Bo z z z<|Ac<|AI z (fun hc4=>?_) (fun hc4=>?_)
      ·replace hL2:=AC hL2 hc4
       refine AJ<|Am<|A6<|AH<|A6<|Ad<|Ag z z<|Ag z z<|Ag z z<|be hL2 fun x14 hx2 hL2=>AG Ah ty3 (hC20.ro 2 z) hx2 z z z fun b5 o1 h1=>A3 ty3 h1 (Aq _ _) z z fun v8 h2=>?_
       obtain rfl:=Bn h2
       refine be hL2 fun x15 hr6 hL2=>cb Cl z z (c_S_l2Has a4 u5 (g5.now hC20.keep) x14 x15 hr6) fun w11 hB10=>have hC21:=hC20.grow hB10;Bx z z<|Ac<|AI z (fun hc5=>?_) (fun hc5=>?_)
       ·replace hL2:=AC hL2 hc5
        exact Bt<|A1<|Be<|Am<|Bb<|Ag z z<|Bj z z z<|Ae z z<|Ac<|Ak (l':=[(0,u1),(1,u2),(3,u5),(6,(ptr b1 0)),(10,v2),(11,(.bool x5)),(12,v1),(13,(I x6)),(14,v4),(15,v5),(16,(I (w64 (x11+1))))]) ⟨z,z,z,z,z,z,z,z,z,z,z,Ai⟩<|⟨k2,Av _,v4,x9,v5,x10,w64 (x11+1),z,hC21,hL2⟩
       replace hL2:=AD hL2 hc5
       refine AJ<|Am<|Ad<|Ag z z<|Ag z z<|be hL2 fun _ hx3 hL2=>WL_shr (nn_some hx3) z z z<|WL_band z z z<|BT z z z<|Ac<|be hL2 fun r4 hr7 hL2=>Bd (fun l w=>∃v9:Value,∃x16:(List Int),∃v10:Value,∃x17:(List Int),(x16,x17)=r4∧l=[(0,u1),(1,u2),(3,u5),(6,(ptr b1 0)),(10,v2),(11,(.bool x5)),(12,v1),(13,(I x6)),(14,v9),(15,v10),(16,(I x11))]∧Ctx [] w0 w [Ab v10 (x17:(List Int)),Ab v9 (x16:(List Int)),Ab v1 (x1:(List Int)),Ab v2 (x4:(List Int)),Af b1 [u3,u4]]) ?_ ?_
       ·refine AI z (fun hc6=>?_) (fun hc6=>?_)
        ·replace hr7:=AC hr7 hc6
         refine Bb<|Ag z z<|Ag z z<|Ag z z<|be hr7 fun x18 hx4 hr7=>AG Ah ty3 (hC21.ro 2 z) hx4 z z z fun b6 o2 h3=>A3 ty3 h3 (Aq _ _) z z fun v11 h4=>?_
         obtain rfl:=Bn h4
         refine A2 (vs:=[(I x18)]) hC21 Ah ty3 z z z z (fac z<|fa0) z z (fun b7 w13 hC23 hB12=>?_)
         have hC24:=hC23.row0 (α:=Int)
         have hC25:=hC24.triv (Bm (x18))
         have hC26:=hC25.row1
         have hC27:=hC26.front 1 z
         dsimp only [List.eraseIdx,List.cons_append,List.nil_append,List.append_nil] at hC27
         have hC28:Ctx [] w0 w13 (Ab (.slice (some ⟨b7,0,none⟩) 1 1) ([x18]:List Int)::[Ab v5 (x10:(List Int)),Ab v4 (x9:(List Int)),Ab v1 (x1:(List Int)),Ab v2 (x4:(List Int)),Af b1 [u3,u4]]):=hC27.rowOwn (by simp [maxLen])
         refine be hr7 fun x19 hx5 hr7=>Bi (α:=Int) hC28 2 z (hC28.ro 0 z) (Aq _ _) Ah ty3 z hx5 z z z fun v12 w14 hC29=>?_
         try dsimp only [List.set] at hC29
         refine Ae z z<|Ac<|?_
         obtain rfl:=Aa hr7
         have hC30:=hC29.f5
         have hC31:=hC30.f5
         have hC32:=hC31.f5
         have hC33:=hC32.f5
         have hC34:=hC33.f5
         have hC35:=hC34.h5
         exact Ak (l':=[(0,u1),(1,u2),(3,u5),(6,(ptr b1 0)),(10,v2),(11,(.bool x5)),(12,v1),(13,(I x6)),(14,v12),(15,v5),(16,(I x11))]) ⟨z,z,z,z,z,z,z,z,z,z,z,Ai⟩<|⟨v12,x19,v5,x10,z,z,hC35⟩
        replace hr7:=AD hr7 hc6
        refine Bb<|Ag z z<|Ag z z<|Ag z z<|be hr7 fun x20 hx6 hr7=>AG Ah ty3 (hC21.ro 2 z) hx6 z z z fun b8 o3 h5=>A3 ty3 h5 (Aq _ _) z z fun v13 h6=>?_
        obtain rfl:=Bn h6
        refine A2 (vs:=[(I x20)]) hC21 Ah ty3 z z z z (fac z<|fa0) z z (fun b9 w15 hC36 hB13=>?_)
        have hC37:=hC36.row0 (α:=Int)
        have hC38:=hC37.triv (Bm (x20))
        have hC39:=hC38.row1
        have hC40:=hC39.front 1 z
        dsimp only [List.eraseIdx,List.cons_append,List.nil_append,List.append_nil] at hC40
        have hC41:Ctx [] w0 w15 (Ab (.slice (some ⟨b9,0,none⟩) 1 1) ([x20]:List Int)::[Ab v5 (x10:(List Int)),Ab v4 (x9:(List Int)),Ab v1 (x1:(List Int)),Ab v2 (x4:(List Int)),Af b1 [u3,u4]]):=hC40.rowOwn (by simp [maxLen])
        refine be hr7 fun x21 hx7 hr7=>Bi (α:=Int) hC41 1 z (hC41.ro 0 z) (Aq _ _) Ah ty3 z hx7 z z z fun v14 w16 hC42=>?_
        try dsimp only [List.set] at hC42
        refine Ae z z<|Ac<|?_
        obtain rfl:=Aa hr7
        have hC43:=hC42.f5
        have hC44:=hC43.f5
        have hC45:=hC44.f5
        have hC46:=hC45.f5
        have hC47:=hC46.f5
        have hC48:=hC47.h5
        exact Ak (l':=[(0,u1),(1,u2),(3,u5),(6,(ptr b1 0)),(10,v2),(11,(.bool x5)),(12,v1),(13,(I x6)),(14,v4),(15,v14),(16,(I x11))]) ⟨z,z,z,z,z,z,z,z,z,z,z,Ai⟩<|⟨v4,x9,v14,x21,z,z,hC48⟩
       rintro l4 _ w12 hs4 ⟨v9,x16,v10,x17,rfl,rfl,hC22⟩
       try dsimp only at hL2
       refine AM<|AL hs4<|?_
       clear hs4
       exact Bb<|Ag z z<|Bj z z z<|Ae z z<|Ac<|Ak (l':=[(0,u1),(1,u2),(3,u5),(6,(ptr b1 0)),(10,v2),(11,(.bool x5)),(12,v1),(13,(I x6)),(14,v9),(15,v10),(16,(I (w64 (x11+1))))]) ⟨z,z,z,z,z,z,z,z,z,z,z,Ai⟩<|⟨k2,Av _,v9,x16,v10,x17,w64 (x11+1),z,hC22,hL2⟩
      replace hL2:=AD hL2 hc4
      refine Bt (A1 (A1 (Be ?_)))
      obtain rfl:=Aa hL2
      exact Ak (l':=[(0,u1),(1,u2),(3,u5),(6,(ptr b1 0)),(10,v2),(11,(.bool x5)),(12,v1),(13,(I x6)),(14,v4),(15,v5)]) ⟨z,z,z,z,z,z,z,z,z,z,Ai⟩<|⟨v4,x9,v5,x10,z,z,hC20⟩
    rintro l5 _ w17 hs5 ⟨v6,x12,v7,x13,rfl,rfl,hC49⟩
    try dsimp only at hL1
    refine AL hs5 ?_
    clear hs5
    refine A6<|be hL1 fun r5 hr8 hL1=>BA (fun l w=>∃x22:Bool,x22=r5∧l=[(0,u1),(1,u2),(3,u5),(6,(ptr b1 0)),(10,v2),(11,(.bool x5)),(12,v1),(13,(I x6)),(14,v6),(15,v7),(80,(.bool x22))]∧Below w17.heap.size w17 w∧Ctx [] w0 w [Ab v7 (x13:(List Int)),Ab v6 (x12:(List Int)),Ab v1 (x1:(List Int)),Ab v2 (x4:(List Int)),Af b1 [u3,u4]]) ?_ ?_
    ·refine Bb<|Ag z z<|Ag z z<|Br (fun hc7=>?_) (fun hc7=>?_)
     ·replace hr8:=AC hr8 hc7
      refine Aj z z<|Ag z z<|Aj z z<|Ag z z<|be hr8 fun x23 hr9 hr8=>Aj z z<|cb Tryz.call62 z z (c_S_l15Less x12 v6 ((hC49.ro 1 z).now (Aq _ _)) x4 v2 ((hC49.ro 3 z).now (Aq _ _)) x23 hr9) fun w19 hB16=>have hC51:=hC49.grow hB16;Aj z z<|Bx z z<|AV z z z<|Ac<|?_
      obtain rfl:=Aa hr8
      exact Ak (l':=[(0,u1),(1,u2),(3,u5),(6,(ptr b1 0)),(10,v2),(11,(.bool x5)),(12,v1),(13,(I x6)),(14,v6),(15,v7),(80,(.bool (!x23)))]) ⟨z,z,z,z,z,z,z,z,z,z,z,Ai⟩<|⟨(!x23),z,z,(Ap hB16).below,hC51⟩
     replace hr8:=AD hr8 hc7
     refine gs z z z z<|gs z z z z<|gs z z z z<|gs z z z z<|AS z z z<|Ac<|?_
     obtain rfl:=Aa hr8
     exact Ak (l':=[(0,u1),(1,u2),(3,u5),(6,(ptr b1 0)),(10,v2),(11,(.bool x5)),(12,v1),(13,(I x6)),(14,v6),(15,v7),(80,(.bool false))]) ⟨z,z,z,z,z,z,z,z,z,z,z,Ai⟩<|⟨false,z,z,(Al _ _),hC49⟩
    rintro _ w18 ⟨x22,rfl,rfl,hB15,hC50⟩
    try dsimp only at hL1
    refine AI z (fun hc8=>?_) (fun hc8=>?_)
    ·replace hL1:=AC hL1 hc8
     exact Bt<|A1<|Be<|Am<|Bb<|Ag z z<|Bj z z z<|Ae z z<|Ac<|have hC52:=hC50.f4;have hC53:=hC52.f4;have hC54:=hC53.f4;have hC55:=hC54.h3;Ak (l':=[(0,u1),(1,u2),(3,u5),(6,(ptr b1 0)),(10,v2),(11,(.bool x5)),(12,v1),(13,(I (w64 (x6+1))))]) ⟨z,z,z,z,z,z,z,z,Ai⟩<|⟨k1,Av _,v2,x4,x5,w64 (x6+1),z,hC55,hL1⟩
    replace hL1:=AD hL1 hc8
    refine AJ<|Am<|Ad<|Ag z z<|Ag z z<|A9 [u3,u4] hC50 4 z z z AT A4 z z<|Ag z z<|be hL1 fun x24 hr10 hL1=>A7 Tryz.call20 z z (c_S_FindPrivateOrder a1 u1 (g1.now hC50.keep) a2 u2 (g2.now hC50.keep) (a3.1,a3.2) u3 (g3.now hC50.keep) u4 (g4.now hC50.keep) x13 v7 ((hC50.ro 0 z).now (Aq _ _)) x24 hr10)<|?_
    rintro _ w20 ⟨hB17,v15,v16,F2,F3,rfl,hv5,hv6,hn2,hb2⟩
    obtain ⟨rfl,rfl⟩:=val_bool hv6
    have hC56:=hC50.pushL hB17 (Bs:=[Ab v15 x24.1]) (Fs:=[F2]) ⟨F2,_,z,hv5,z⟩ (by simpa using hn2) (fun b h=>hb2 b (by simpa using h))
    refine Ag z z<|AF z z z<|AF z z z<|Ae z z<|Ae z z<|Ac<|Ad<|Ag z z<|Ac<|be hL1 fun r6 hr11 hL1=>Bd (fun l w=>∃v17:Value,∃x25:(List Int),∃x26:Bool,(x25,x26)=r6∧l=[(0,u1),(1,u2),(3,u5),(6,(ptr b1 0)),(10,v17),(11,(.bool x26)),(12,v1),(13,(I x6))]∧Below w20.heap.size w20 w∧Ctx [] w0 w [Ab v1 (x1:(List Int)),Ab v17 (x25:(List Int)),Af b1 [u3,u4]]) ?_ ?_
    ·refine AI z (fun hc9=>?_) (fun hc9=>?_)
     ·replace hr11:=AC hr11 hc9
      refine Ad<|Ag z z<|Ae z z<|Ac<|Bb<|Ae z z<|Ac<|?_
      obtain rfl:=Aa hr11
      have hC58:=hC56.f5
      have hC59:=hC58.f3
      have hC60:=hC59.f4
      have hC61:=hC60.h3
      exact Ak (l':=[(0,u1),(1,u2),(3,u5),(6,(ptr b1 0)),(10,v6),(11,(.bool true)),(12,v1),(13,(I x6))]) ⟨z,z,z,z,z,z,z,z,Ai⟩<|⟨v6,x12,true,z,z,(Al _ _),hC61⟩
     replace hr11:=AD hr11 hc9
     refine AJ ?_
     obtain rfl:=Aa hr11
     have hC62:=hC56.f5
     have hC63:=hC62.f5
     have hC64:=hC63.f5
     have hC65:=hC64.h3
     exact Ak (l':=[(0,u1),(1,u2),(3,u5),(6,(ptr b1 0)),(10,v2),(11,(.bool x5)),(12,v1),(13,(I x6))]) ⟨z,z,z,z,z,z,z,z,Ai⟩<|⟨v2,x4,x5,z,z,(Al _ _),hC65⟩
    rintro l7 _ w21 hs7 ⟨v17,x25,x26,rfl,rfl,hB18,hC57⟩
    try dsimp only at hL1
    refine AM<|AL hs7<|?_
    clear hs7
    exact Bb<|Ag z z<|Bj z z z<|Ae z z<|Ac<|Ak (l':=[(0,u1),(1,u2),(3,u5),(6,(ptr b1 0)),(10,v17),(11,(.bool x26)),(12,v1),(13,(I (w64 (x6+1))))]) ⟨z,z,z,z,z,z,z,z,Ai⟩<|⟨k1,Av _,v17,x25,x26,w64 (x6+1),z,hC57,hL1⟩
   replace hL1:=AD hL1 hc3
   refine Bt (A1 (A1 (Be ?_)))
   obtain rfl:=Aa hL1
   have hC66:=hC11.f1
   have hC67:=hC66.h1
   exact Ak (l':=[(10,v2),(11,(.bool x5))]) ⟨z,z,Ai⟩<|⟨v2,x4,x5,z,z,hC67⟩
 rintro l8 _ w22 hs8 ⟨v3,x7,x8,rfl,rfl,hC68⟩
 try dsimp only at hF
 refine AL hs8 ?_
 clear hs8
 refine Ad<|Ag z z<|Ag z z<|Ae z z<|Ae z z<|Ac<|AP<|?_
 obtain rfl:=Aa hF
 refine Cd z z z ?_
 have hC69:=hC68.triv (BK (x8))
 have hC70:=hC69.f1
 exact ⟨_,z,res2_of hC70⟩
theorem c_M_termsOf_M_isValue {w0:World} (a1:(List (Int × (List Int)))) (u1:Value) (g1:RO [] w0 u1 a1) (rr:(List Int)) (hF:M.termsOf_M_isValue a1=some rr) :
 Calls Tryz.prog 97 [u1,(.func (.func 98) #[] #[])].toArray w0 fun e w'=>∃v,e=.returned v∧Res w0 rr v w':=by
 refine Au Tryz.func97 z z ?_
 have hC0:=AA w0
 unfold M.termsOf_M_isValue at hF
 refine Ad<|Ae z z<|Ac<|Ad<|A2 (vs:=[]) hC0 Ah ty3 z z z z (by simp) z z fun b1 w1 hC1 hB1=>?_
 have hC2:=hC1.row0 (α:=Int)
 have hC3:=hC2.front 1 z
 dsimp only [List.eraseIdx,List.cons_append,List.nil_append,List.append_nil] at hC3
 have hC4:Ctx [] w0 w1 (Ab (.slice (some ⟨b1,0,none⟩) 0 0) (([]:List Int):List Int)::[]):=hC3.rowOwn (by simp [maxLen])
 refine Ae z z<|Ac<|A6<|Ad<|Ag z z<|AZ Ax g1 z z<|Ag z z<|Ac<|be hF fun r1 hr1 hF=>Bd (fun l w=>∃v2:Value,∃x3:(List Int),x3=r1∧l=[(5,v2)]∧Ctx [] w0 w [Ab v2 (x3:(List Int))]) ?_ ?_
 ·refine AH<|wS (l':=[(1,(.func (.func 98) #[] #[])),(5,(.slice (some ⟨b1,0,none⟩) 0 0)),(11,u1),(12,(I (List.length a1:Int))),(13,(I 0))]) ⟨z,z,z,z,z,Ai⟩<|Bu (fun k l w=>∃v1:Value,∃x1:(List Int),∃x2:Int,l=[(1,(.func (.func 98) #[] #[])),(5,v1),(11,u1),(12,(I (List.length a1:Int))),(13,(I x2))]∧Ctx [] w0 w [Ab v1 (x1:(List Int))]∧M.termsOf_M_isValue_l1 a1 k x1 x2=some r1) FUEL ⟨(.slice (some ⟨b1,0,none⟩) 0 0),([]:List Int),0,z,hC4,hr1⟩<|?_
  clear hr1
  rintro k1 _ w2 ⟨v1,x1,x2,rfl,hC5,hL1⟩
  cases k1 with
  | zero=>rw [M.termsOf_M_isValue_l1] at hL1; cases hL1
  | succ k1 =>
   rw [M.termsOf_M_isValue_l1] at hL1
   refine Ad<|Bo z z z<|Ac<|A6<|AI z (fun hc1=>?_) (fun hc1=>?_)
   ·replace hL1:=AC hL1 hc1
    refine AJ<|Am<|A6<|AH<|Ad<|be hL1 fun x4 hx1 hL1=>AG Ax ty84 g1 hx1 z z z fun b2 o1 h1=>A3 ty84 h1 hC5.keep z z fun v3 h2=>?_
    obtain ⟨v4,rfl,h3⟩:=Cc h2
    refine By hC5 zero84 z z fun b3 w3 hC6 hB3 hN1=>AO (cs':=[(I x4.1),v4]) (new:=[(I x4.1),v4]) hC6 0 z z (fac z<|fac (Bz h3)<|fa0) z Ca z z fun w4 hC7 hKp1=>?_
    try dsimp only [List.set] at hC7
    have hk1:=AY (Ap hB3) hN1 hKp1
    refine Ac<|Ad<|fd AB Aw z z z z<|Ao hC7 0 z z AQ z z<|AZ Ah h3 z z<|Ag z z<|Ac<|be hL1 fun r2 hr2 hL1=>Bd (fun l w=>∃v6:Value,∃x7:(List Int),x7=r2∧l=[(1,(.func (.func 98) #[] #[])),(5,v6),(11,u1),(12,(I (List.length a1:Int))),(13,(I x2))]∧Ctx [] w0 w [Ab v6 (x7:(List Int))]) ?_ ?_
    ·refine AH<|have hC20:=hC7.f1;have hC21:=hC20.h1;wS (l':=[(1,(.func (.func 98) #[] #[])),(5,v1),(11,u1),(12,(I (List.length a1:Int))),(13,(I x2)),(18,v4),(19,(I (List.length x4.2:Int))),(20,(I 0))]) ⟨z,z,z,z,z,z,z,z,Ai⟩<|Bu (fun k l w=>∃v5:Value,∃x5:(List Int),∃x6:Int,l=[(1,(.func (.func 98) #[] #[])),(5,v5),(11,u1),(12,(I (List.length a1:Int))),(13,(I x2)),(18,v4),(19,(I (List.length x4.2:Int))),(20,(I x6))]∧Ctx [] w0 w [Ab v5 (x5:(List Int))]∧M.termsOf_M_isValue_l2 x4 k x5 x6=some r2) FUEL ⟨v1,x1,0,z,hC21,hr2⟩<|?_
     clear hr2
     rintro k2 _ w5 ⟨v5,x5,x6,rfl,hC8,hL2⟩
     cases k2 with
     | zero=>rw [M.termsOf_M_isValue_l2] at hL2; cases hL2
     | succ k2 =>
      rw [M.termsOf_M_isValue_l2] at hL2
      refine Ad<|Bo z z z<|Ac<|A6<|AI z (fun hc2=>?_) (fun hc2=>?_)
      ·replace hL2:=AC hL2 hc2
       refine AJ<|Am<|A6<|AH<|Ad<|be hL2 fun x8 hx2 hL2=>AG Ah ty3 h3 hx2 z z z fun b4 o2 h4=>A3 ty3 h4 hC8.keep z z fun v7 h5=>?_
       obtain rfl:=Bn h5
       refine Ae z z<|Ac<|Ad<|Ag z z<|Ag z z<|be hL2 fun x9 hr3 hL2=>BH (cap:=[]) Tryz.call98 z z z (c_M_isValue x8 x9 hr3) fun _ w6 hv1=>?_
       obtain ⟨rfl,hB5⟩:=BJ hv1
       have hC9:=hC8.grow hB5
       refine Ac<|be hL2 fun r3 hr4 hL2=>Bd (fun l w=>∃v8:Value,∃x10:(List Int),x10=r3∧l=[(1,(.func (.func 98) #[] #[])),(5,v8),(11,u1),(12,(I (List.length a1:Int))),(13,(I x2)),(18,v4),(19,(I (List.length x4.2:Int))),(20,(I x6))]∧Ctx [] w0 w [Ab v8 (x10:(List Int))]) ?_ ?_
       ·refine AI z (fun hc3=>?_) (fun hc3=>?_)
        ·replace hr4:=AC hr4 hc3
         refine Bb<|Ag z z<|Ag z z<|A2 (vs:=[(I x8)]) hC9 Ah ty3 z z z z (fac z<|fa0) z z fun b5 w9 hC11 hB7=>?_
         have hC12:=hC11.row0 (α:=Int)
         have hC13:=hC12.triv (Bm (x8))
         have hC14:=hC13.row1
         have hC15:=hC14.front 1 z
         dsimp only [List.eraseIdx,List.cons_append,List.nil_append,List.append_nil] at hC15
         have hC16:Ctx [] w0 w9 (Ab (.slice (some ⟨b5,0,none⟩) 1 1) ([x8]:List Int)::[Ab v5 (x5:(List Int))]):=hC15.rowOwn (by simp [maxLen])
         refine be hr4 fun x11 hx3 hr4=>Bi (α:=Int) hC16 1 z (hC16.ro 0 z) (Aq _ _) Ah ty3 z hx3 z z z fun v9 w10 hC17=>?_
         try dsimp only [List.set] at hC17
         refine Ae z z<|Ac<|?_
         obtain rfl:=Aa hr4
         have hC18:=hC17.f1
         have hC19:=hC18.h1
         exact Ak (l':=[(1,(.func (.func 98) #[] #[])),(5,v9),(11,u1),(12,(I (List.length a1:Int))),(13,(I x2)),(18,v4),(19,(I (List.length x4.2:Int))),(20,(I x6))]) ⟨z,z,z,z,z,z,z,z,Ai⟩<|⟨v9,x11,z,z,hC19⟩
        replace hr4:=AD hr4 hc3
        refine AJ ?_
        obtain rfl:=Aa hr4
        exact Ak (l':=[(1,(.func (.func 98) #[] #[])),(5,v5),(11,u1),(12,(I (List.length a1:Int))),(13,(I x2)),(18,v4),(19,(I (List.length x4.2:Int))),(20,(I x6))]) ⟨z,z,z,z,z,z,z,z,Ai⟩<|⟨v5,x5,z,z,hC9⟩
       rintro l3 _ w7 hs3 ⟨v8,x10,rfl,rfl,hC10⟩
       try dsimp only at hL2
       refine AM<|AL hs3<|?_
       clear hs3
       exact Bb<|Bj z z z<|Ag z z<|Ac<|Ak (l':=[(1,(.func (.func 98) #[] #[])),(5,v8),(11,u1),(12,(I (List.length a1:Int))),(13,(I x2)),(18,v4),(19,(I (List.length x4.2:Int))),(20,(I (w64 (x6+1))))]) ⟨z,z,z,z,z,z,z,z,Ai⟩<|⟨k2,Av _,v8,x10,w64 (x6+1),z,hC10,hL2⟩
      replace hL2:=AD hL2 hc2
      refine Bt (A1 (A1 (Be ?_)))
      obtain rfl:=Aa hL2
      exact Ak (l':=[(1,(.func (.func 98) #[] #[])),(5,v5),(11,u1),(12,(I (List.length a1:Int))),(13,(I x2))]) ⟨z,z,z,z,z,Ai⟩<|⟨v5,x5,z,z,hC8⟩
    rintro l4 _ w11 hs4 ⟨v6,x7,rfl,rfl,hC22⟩
    try dsimp only at hL1
    refine AM<|AL hs4<|?_
    clear hs4
    exact Bb<|Bj z z z<|Ag z z<|Ac<|Ak (l':=[(1,(.func (.func 98) #[] #[])),(5,v6),(11,u1),(12,(I (List.length a1:Int))),(13,(I (w64 (x2+1))))]) ⟨z,z,z,z,z,Ai⟩<|⟨k1,Av _,v6,x7,w64 (x2+1),z,hC22,hL1⟩
   replace hL1:=AD hL1 hc1
   refine Bt (A1 (A1 (Be ?_)))
   obtain rfl:=Aa hL1
   exact Ak (l':=[(5,v1)]) ⟨z,Ai⟩<|⟨v1,x1,z,z,hC5⟩
 rintro l5 _ w12 hs5 ⟨v2,x3,rfl,rfl,hC23⟩
 try dsimp only at hF
 refine AL hs5 ?_
 clear hs5
 refine Ad<|Ag z z<|be hF fun x12 hr5 hF=>?_
 obtain ⟨Fs1,hH1,hn1,hF1,hO1,hb1⟩:=AW (As:=[]) [Ab v2 (x3:(List Int))] hC23
 refine A7 Tryz.call80 z z (c_Slices_Sort_Lint_int x3 v2 hH1 hn1 x12 hr5) ?_
 rintro _ w13 ⟨rfl,hq5⟩
 have hC25:Ctx [] w0 w13 [Ab v2 (x12:(List Int))]:=hb1 _ _ hq5
 refine Ac<|Ad<|Ag z z<|be hF fun x13 hr6 hF=>?_
 obtain ⟨Fs2,hH2,hn2,hF2,hO2,hb2⟩:=AW (As:=[]) [Ab v2 (x12:(List Int))] hC25
 refine A7 Tryz.call81 z z (c_Slices_Compact_Lint_int x12 v2 hH2 hn2 x13 hr6) ?_
 rintro v10 w14 ⟨_,rfl,hq6⟩
 have hC27:Ctx [] w0 w14 [Ab v10 (x13:(List Int))]:=hb2 _ _ hq6
 refine Ae z z<|Ac<|AP<|?_
 obtain rfl:=Aa hF
 exact A8 z z<|⟨_,z,Co hC27 0 z⟩
theorem c_M_ConstantsOf {w0:World} (a1:((List Int) × (List (Int × (List Int))))) (u1:Value) (g1:RO [] w0 u1 a1.1) (u2:Value) (g2:RO [] w0 u2 a1.2) (rr:(List Int)) (hF:M.ConstantsOf a1=some rr) :
 Calls Tryz.prog 63 [(.agg #[u1,u2])].toArray w0 fun e w'=>∃v,e=.returned v∧Res w0 rr v w':=by
 refine Au Tryz.func63 z z ?_
 have hC0:=AA w0
 unfold M.ConstantsOf at hF
 refine Ad<|Bv (cs:=[u1,u2]) hC0 z z z fun b1 w1 hC1 hB1 hN1=>Ae z z<|Ac<|Ad<|fd A0 AU z z z z<|Ao hC1 0 z z Ba z z<|be hF fun x1 hr1 hF=>A7 Tryz.call97 z z (c_M_termsOf_M_isValue a1.2 u2 (g2.now hC1.keep) x1 hr1)<|?_
 rintro v1 w2 ⟨hB2,F1,hv1,hn1,hb1⟩
 have hC2:=hC1.push hB2 (A:=Ab v1 x1) hv1 hn1 hb1
 refine Ae z z<|Ac<|AP<|?_
 obtain rfl:=Aa hF
 exact A8 z z<|⟨_,z,Co hC2 0 z⟩
theorem c_M_LeastDisclosure_c1 {w0:World} (a1:Int) (pb1:Nat) (ax1:(List Int)) (g1:ROAt [] w0 pb1 0 ax1) (rr:Bool) (hF:M.LeastDisclosure_c1 a1 ax1=some rr) :
 Calls Tryz.prog 65 [(I a1),(ptr pb1 0)].toArray w0 fun e w'=>∃v,e=.returned v∧Res w0 rr v w':=by
 refine Au Tryz.func65 z z ?_
 have hC0:=AA w0
 unfold M.LeastDisclosure_c1 at hF
 refine Ad<|Ae z z<|Ac<|Ad<|A3 ty22 g1 hC0.keep z z fun v1 h1=>Ag z z<|be hF fun x1 hr1 hF=>cb CE z z (c_Slices_Contains_Lint_int ax1 v1 (h1.now hC0.keep) a1 x1 hr1) fun w1 hB1=>have hC1:=hC0.grow hB1;Bx z z<|Ae z z<|Ac<|AP<|?_
 obtain rfl:=Aa hF
 exact A8 z z<|⟨_,z,AR hC1 _⟩
theorem c_Cmp_isNaN_int {w0:World} (a1:Int) (rr:Bool) (hF:Cmp.isNaN_int a1=some rr) :
 Calls Tryz.prog 152 [(I a1)].toArray w0 fun e w'=>∃v,e=.returned v∧Res w0 rr v w':=by
 refine Au Tryz.func152 z z ?_
 have hC0:=AA w0
 unfold Cmp.isNaN_int at hF
 refine Ad<|Ae z z<|Ac<|Ad<|Ag z z<|Ag z z<|C4 z z z<|Ae z z<|Ac<|AP<|?_
 obtain rfl:=Aa hF
 exact A8 z z<|⟨_,z,AR hC0 _⟩
end Go.Gx.Px
