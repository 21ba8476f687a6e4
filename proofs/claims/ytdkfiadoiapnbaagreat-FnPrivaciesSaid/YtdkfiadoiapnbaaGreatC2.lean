/- The contracts of the Go functions against the pure functions, printed by program. Conditions: each says them. -/
import Derived.Test.YtdkfiadoiapnbaaGreatC1
set_option linter.unusedVariables false
set_option linter.unusedSimpArgs false
set_option maxRecDepth 100000
set_option maxHeartbeats 4000000
namespace Go.Gx.Px
open Go.Proofs Go.RowKit
open K9
theorem c_S_IsOrder {w0:World} (a1:(List Int)) (u1:Value) (g1:RO [] w0 u1 a1) (a2:(List (Int × (List Int) × Int × Int × Int))) (u2:Value) (g2:RO [] w0 u2 a2) (a3:((List Int) × (List (Int × (List Int))))) (u3:Value) (g3:RO [] w0 u3 a3.1) (u4:Value) (g4:RO [] w0 u4 a3.2) (a4:(List (Int × Int))) (u5:Value) (g5:RO [] w0 u5 a4) (rr:Bool) (hF:S.IsOrder a1 a2 a3 a4=some rr) :
 Calls Tryz.prog 43 [u1,u2,(.agg #[u3,u4]),u5].toArray w0 fun e w'=>∃v,e=.returned v∧Res w0 rr v w':=by
 refine Au Tryz.func43 z z ?_
 have hC0:=AA w0
 unfold S.IsOrder at hF
 refine Ad<|Bv (cs:=[u3,u4]) hC0 z z z fun b1 w1 hC1 hB1 hN1=>Ae z z<|Ac<|A6<|be hF fun r1 hr1 hF=>BA (fun l w=>∃x1:Bool,x1=r1∧l=[(1,u2),(3,u5),(6,(ptr b1 0)),(24,(.bool x1))]∧Below w1.heap.size w1 w∧Ctx [] w0 w [Af b1 [u3,u4]]) ?_ ?_
 ·refine Bb<|Ag z z<|Ag z z<|A9 [u3,u4] hC1 0 z z z AT A4 z z<|be hr1 fun x2 hr2 hr1=>cb CD z z (c_S_l6Fine a1 u1 (g1.now hC1.keep) a2 u2 (g2.now hC1.keep) (a3.1,a3.2) u3 (g3.now hC1.keep) u4 (g4.now hC1.keep) x2 hr2) fun w3 hB3=>have hC3:=hC1.grow hB3;Bx z z<|Ag z z<|Br (fun hc1=>?_) (fun hc1=>?_)
  ·replace hr1:=AC hr1 hc1
   refine gs z z z z<|gs z z z z<|gs z z z z<|gs z z z z<|gs z z z z<|gs z z z z<|AV z z z<|Ac<|?_
   obtain rfl:=Aa hr1
   exact Ak (l':=[(1,u2),(3,u5),(6,(ptr b1 0)),(24,(.bool true))]) ⟨z,z,z,z,Ai⟩<|⟨true,z,z,(Ap hB3).below,hC3⟩
  replace hr1:=AD hr1 hc1
  refine Aj z z<|Ag z z<|Aj z z<|AZ A5 g5 z z<|Aj z z<|fd A0 AU z z z z<|Aj z z<|Ao hC3 0 z z Ba z z<|Aj z z<|AZ Ax g4 z z<|Aj z z<|C4 z z z<|AS z z z<|Ac<|?_
  obtain rfl:=Aa hr1
  exact Ak (l':=[(1,u2),(3,u5),(6,(ptr b1 0)),(24,(.bool (!decide ((List.length a4:Int)=(List.length a3.2:Int)))))]) ⟨z,z,z,z,Ai⟩<|⟨(!decide ((List.length a4:Int)=(List.length a3.2:Int))),z,z,(Ap hB3).below,hC3⟩
 rintro _ w2 ⟨x1,rfl,rfl,hB2,hC2⟩
 try dsimp only at hF
 refine AI z (fun hc2=>?_) (fun hc2=>?_)
 ·replace hF:=AC hF hc2
  refine Ad<|Ae z z<|Ac<|AP<|Az<|?_
  obtain rfl:=Aa hF
  exact A8 z z<|⟨_,z,AR hC2 _⟩
 replace hF:=AD hF hc2
 refine AJ<|Am<|Ad<|A2 (vs:=[]) hC2 Ah ty3 z z z z (by simp) z z fun b2 w4 hC4 hB4=>?_
 have hC5:=hC4.row0 (α:=Int)
 have hC6:=hC5.front 1 z
 dsimp only [List.eraseIdx,List.cons_append,List.nil_append,List.append_nil] at hC6
 have hC7:Ctx [] w0 w4 (Ab (.slice (some ⟨b2,0,none⟩) 0 0) (([]:List Int):List Int)::[Af b1 [u3,u4]]):=hC6.rowOwn (by simp [maxLen])
 refine Ae z z<|Ac<|Ad<|A2 (vs:=[]) hC7 Ah ty3 z z z z (by simp) z z fun b3 w5 hC8 hB5=>?_
 have hC9:=hC8.row0 (α:=Int)
 have hC10:=hC9.front 1 z
 dsimp only [List.eraseIdx,List.cons_append,List.nil_append,List.append_nil] at hC10
 have hC11:Ctx [] w0 w5 (Ab (.slice (some ⟨b3,0,none⟩) 0 0) (([]:List Int):List Int)::[Ab (.slice (some ⟨b2,0,none⟩) 0 0) (([]:List Int):(List Int)),Af b1 [u3,u4]]):=hC10.rowOwn (by simp [maxLen])
 refine Ae z z<|Ac<|A6<|Ad<|Ae z z<|Ac<|be hF fun r2 hr3 hF=>Bd (fun l w=>.inl ()=r2∧l=[]∧Ctx [] w0 w []) ?_ ?_
 ·refine AH<|wS (l':=[(1,u2),(3,u5),(6,(ptr b1 0)),(9,(.slice (some ⟨b2,0,none⟩) 0 0)),(10,(.slice (some ⟨b3,0,none⟩) 0 0)),(11,(I 0))]) ⟨z,z,z,z,z,z,Ai⟩<|Bu (fun k l w=>∃v1:Value,∃x3:(List Int),∃v2:Value,∃x4:(List Int),∃x5:Int,l=[(1,u2),(3,u5),(6,(ptr b1 0)),(9,v1),(10,v2),(11,(I x5))]∧Ctx [] w0 w [Ab v2 (x4:(List Int)),Ab v1 (x3:(List Int)),Af b1 [u3,u4]]∧S.IsOrder_l1 a4 a3 a2 k x3 x4 x5=some r2) FUEL ⟨(.slice (some ⟨b2,0,none⟩) 0 0),([]:List Int),(.slice (some ⟨b3,0,none⟩) 0 0),([]:List Int),0,z,hC11,hr3⟩<|?_
  clear hr3
  rintro k1 _ w6 ⟨v1,x3,v2,x4,x5,rfl,hC12,hL1⟩
  cases k1 with
  | zero=>rw [S.IsOrder_l1] at hL1; cases hL1
  | succ k1 =>
   rw [S.IsOrder_l1] at hL1
   refine A6<|Ad<|Ag z z<|Ag z z<|AZ A5 g5 z z<|Bo z z z<|Ac<|AI z (fun hc3=>?_) (fun hc3=>?_)
   ·replace hL1:=AC hL1 hc3
    refine AJ<|Am<|A6<|AH<|A6<|be hL1 fun r3 hr4 hL1=>BA (fun l w=>∃x6:Bool,x6=r3∧l=[(1,u2),(3,u5),(6,(ptr b1 0)),(9,v1),(10,v2),(11,(I x5)),(86,(.bool x6))]∧Below w6.heap.size w6 w∧Ctx [] w0 w [Ab v2 (x4:(List Int)),Ab v1 (x3:(List Int)),Af b1 [u3,u4]]) ?_ ?_
    ·refine B1 54 z hmix fun w9 hB8=>have hC14:=hC12.grow hB8;tm 0 z z z<|tm 1 z z z<|be hr4 fun x7 hx1 hr4=>tk 2 z z (B4 A5 ty75 g5 hx1 z z)<|AG A5 ty75 g5 hx1 z z z fun b4 o1 h1=>Ac<|tf 3 AX AE z z z z z<|tf 5 A0 AU z z z z z<|wAS (l':=[(1,u2),(3,u5),(6,(ptr b1 0)),(9,v1),(10,v2),(11,(I x5)),(27,(I x5)),(28,u5),(29,(I (List.length a4:Int))),(30,(.bool (decide (x5 < (List.length a4:Int))))),(33,u5),(34,(I x5)),(35,(ptr b4 o1)),(36,(ptr b4 (o1+0))),(38,(ptr b1 1))]) ⟨z,z,z,z,z,z,z,z,z,z,z,z,z,z,z,Ai⟩<|Bw [⟨4,[],fun vs=>Bh (I x7.1),[]⟩,⟨6,[],fun vs=>Bh u4,[]⟩,⟨7,[],fun vs=>Bh (I (List.length a3.2:Int)),[]⟩,⟨8,[],fun vs=>Bh (I (w64 ((List.length a3.2:Int) - 1))),[]⟩] [[],[],[6],[7]] 45 z (by kernel_rfl) (by kernel_rfl) z ?_ ?_
     ·refine An z ?_ ?_
      ·intro w10 hB9
       refine Ar<|⟨_,z,?_⟩
       refine A3 ty3 h1.fst (hC14.keep.then hB9) z z (fun v3 h2=>?_)
       obtain rfl:=Bn h2
       exact Ac<|Ay (Al _ _) z z ⟨z,z⟩
      refine An z ?_ ?_
      ·intro w10 hB9
       refine Ar<|⟨_,z,?_⟩
       exact Ao (hC14.grow hB9) 2 z z Ba z z<|Ac<|Ay (Al _ _) z z ⟨z,z⟩
      refine An z ?_ ?_
      ·intro w10 hB9
       refine AK z z z ?_
       rintro _ _ ⟨rfl,rfl⟩ _
       refine Ar<|⟨_,z,?_⟩
       exact AZ Ax g4 z z<|Ac<|Ay (Al _ _) z z ⟨z,z⟩
      refine An z ?_ ?_
      ·intro w10 hB9
       refine AK z z z ?_
       rintro _ _ ⟨rfl,rfl⟩ _
       refine Ar<|⟨_,z,?_⟩
       exact BN z z z<|Ac<|Ay (Al _ _) z z ⟨z,z⟩
      exact Bp
     intro w11 hB10
     refine At z z z ?_
     rintro _ _ ⟨rfl,rfl⟩
     refine At z z z ?_
     rintro _ _ ⟨rfl,rfl⟩
     refine At z z z ?_
     rintro _ _ ⟨rfl,rfl⟩
     refine At z z z ?_
     rintro _ _ ⟨rfl,rfl⟩
     refine B0 fun hn1 hb1=>have hC15:=hC14.grow hB10;be hr4 fun x8 hr5 hr4=>oe 9 z<|cb B9 z z (c_S_l1In x7.1 0 (w64 ((List.length a3.2:Int) - 1)) x8 hr5) fun w12 hB11=>have hC16:=hC15.grow hB11;Ac<|tk 10 z z (Cm z)<|Bx z z<|Ac<|tm 11 z z z<|BQ (fun hc4=>?_) (fun hc4=>?_)
     ·replace hr4:=AC hr4 hc4
      refine sk 12 z z z z z<|sk 13 z z z z z<|sk 14 z z z z z<|sk 15 z z z z z<|sk 16 z z z z z<|sk 17 z z z z z<|sk 18 z z z z z<|tp 19 z z z z<|tm 20 z z z<|sk 21 z z z z z<|sk 22 z z z z z<|sk 23 z z z z z<|sk 24 z z z z z<|sk 25 z z z z z<|sk 26 z z z z z<|sk 27 z z z z z<|sk 28 z z z z z<|sk 29 z z z z z<|sk 30 z z z z z<|tp 31 z z z z<|tm 32 z z z<|sk 33 z z z z z<|sk 34 z z z z z<|sk 35 z z z z z<|sk 36 z z z z z<|sk 37 z z z z z<|sk 38 z z z z z<|sk 39 z z z z z<|sk 40 z z z z z<|sk 41 z z z z z<|sk 42 z z z z z<|sk 43 z z z z z<|sk 44 z z z z z<|sk 45 z z z z z<|sk 46 z z z z z<|sk 47 z z z z z<|sk 48 z z z z z<|sk 49 z z z z z<|sk 50 z z z z z<|sk 51 z z z z z<|sk 52 z z z z z<|tp 53 z z z z<|dn<|?_
      obtain rfl:=Aa hr4
      exact Ak (l':=[(1,u2),(3,u5),(6,(ptr b1 0)),(9,v1),(10,v2),(11,(I x5)),(86,(.bool true))]) ⟨z,z,z,z,z,z,z,Ai⟩<|⟨true,z,z,(((Ap hB8).then hB10).then hB11).below,hC16⟩
     replace hr4:=AD hr4 hc4
     refine tn 12 z z z z z<|tn 13 z z z z z<|tn 14 z z z z z<|be hr4 fun x9 hx2 hr4=>tg 15 z z z z (B4 A5 ty75 g5 hx2 z z)<|Aj z z<|AG A5 ty75 g5 hx2 z z z fun b5 o2 h3=>Ac<|tg 16 z z z z (BC AX z z (fun w=>⟨_,AE w⟩) z)<|Aj z z<|fd AX AE z z z z<|Ac<|oe 17 z<|Aj z z<|A3 ty3 h3.fst hC16.keep z z fun v4 h4=>?_
     obtain rfl:=Bn h4
     refine Ac<|be hr4 fun x10 hr6 hr4=>oe 18 z<|Aj z z<|cb Cl z z (c_S_l2Has x4 v2 ((hC16.ro 0 z).now (Aq _ _)) x9.1 x10 hr6) fun w13 hB12=>have hC17:=hC16.grow hB12;Ac<|tq 19 z z z z<|tm 20 z z z<|BQ (fun hc5=>?_) (fun hc5=>?_)
     ·replace hr4:=AC hr4 hc5
      refine sk 21 z z z z z<|sk 22 z z z z z<|sk 23 z z z z z<|sk 24 z z z z z<|sk 25 z z z z z<|sk 26 z z z z z<|sk 27 z z z z z<|sk 28 z z z z z<|sk 29 z z z z z<|sk 30 z z z z z<|tp 31 z z z z<|tm 32 z z z<|sk 33 z z z z z<|sk 34 z z z z z<|sk 35 z z z z z<|sk 36 z z z z z<|sk 37 z z z z z<|sk 38 z z z z z<|sk 39 z z z z z<|sk 40 z z z z z<|sk 41 z z z z z<|sk 42 z z z z z<|sk 43 z z z z z<|sk 44 z z z z z<|sk 45 z z z z z<|sk 46 z z z z z<|sk 47 z z z z z<|sk 48 z z z z z<|sk 49 z z z z z<|sk 50 z z z z z<|sk 51 z z z z z<|sk 52 z z z z z<|tp 53 z z z z<|dn<|?_
      obtain rfl:=Aa hr4
      exact Ak (l':=[(1,u2),(3,u5),(6,(ptr b1 0)),(9,v1),(10,v2),(11,(I x5)),(86,(.bool true))]) ⟨z,z,z,z,z,z,z,Ai⟩<|⟨true,z,z,((((Ap hB8).then hB10).then hB11).then hB12).below,hC17⟩
     replace hr4:=AD hr4 hc5
     refine tn 21 z z z z z<|tn 22 z z z z z<|be hr4 fun x11 hx3 hr4=>tg 23 z z z z (B4 A5 ty75 g5 hx3 z z)<|Aj z z<|AG A5 ty75 g5 hx3 z z z fun b6 o3 h5=>Ac<|tg 24 z z z z (BC AX z z (fun w=>⟨_,AE w⟩) z)<|Aj z z<|fd AX AE z z z z<|Ac<|tn 26 z z z z z<|tg 27 z z z z (CJ Bc g2 z)<|Aj z z<|AZ Bc g2 z z<|Ac<|tg 28 z z z z (C3 z z)<|Aj z z<|BN z z z<|Ac<|oe 25 z<|Aj z z<|A3 ty3 h5.snd hC17.keep z z fun v5 h6=>?_
     obtain rfl:=Bn h6
     refine Ac<|be hr4 fun x12 hr7 hr4=>oe 29 z<|Aj z z<|cb B9 z z (c_S_l1In x11.2 0 (w64 ((List.length a2:Int) - 1)) x12 hr7) fun w14 hB13=>have hC18:=hC17.grow hB13;Ac<|tg 30 z z z z (Cm z)<|Aj z z<|Bx z z<|Ac<|tq 31 z z z z<|tm 32 z z z<|BQ (fun hc6=>?_) (fun hc6=>?_)
     ·replace hr4:=AC hr4 hc6
      refine sk 33 z z z z z<|sk 34 z z z z z<|sk 35 z z z z z<|sk 36 z z z z z<|sk 37 z z z z z<|sk 38 z z z z z<|sk 39 z z z z z<|sk 40 z z z z z<|sk 41 z z z z z<|sk 42 z z z z z<|sk 43 z z z z z<|sk 44 z z z z z<|sk 45 z z z z z<|sk 46 z z z z z<|sk 47 z z z z z<|sk 48 z z z z z<|sk 49 z z z z z<|sk 50 z z z z z<|sk 51 z z z z z<|sk 52 z z z z z<|tp 53 z z z z<|dn<|?_
      obtain rfl:=Aa hr4
      exact Ak (l':=[(1,u2),(3,u5),(6,(ptr b1 0)),(9,v1),(10,v2),(11,(I x5)),(86,(.bool true))]) ⟨z,z,z,z,z,z,z,Ai⟩<|⟨true,z,z,(((((Ap hB8).then hB10).then hB11).then hB12).then hB13).below,hC18⟩
     replace hr4:=AD hr4 hc6
     refine tn 33 z z z z z<|tn 34 z z z z z<|tn 35 z z z z z<|be hr4 fun x13 hx4 hr4=>tg 36 z z z z (B4 A5 ty75 g5 hx4 z z)<|Aj z z<|AG A5 ty75 g5 hx4 z z z fun b7 o4 h7=>Ac<|tg 37 z z z z (BC AX z z (fun w=>⟨_,AE w⟩) z)<|Aj z z<|fd AX AE z z z z<|Ac<|tg 41 z z z z (BC A0 z z (fun w=>⟨_,AU w⟩) z)<|Aj z z<|fd A0 AU z z z z<|Ac<|tn 43 z z z z z<|tn 44 z z z z z<|be hr4 fun x14 hx5 hr4=>tg 45 z z z z (B4 A5 ty75 g5 hx5 z z)<|Aj z z<|AG A5 ty75 g5 hx5 z z z fun b8 o5 h8=>Ac<|tg 46 z z z z (BC AX z z (fun w=>⟨_,AE w⟩) z)<|Aj z z<|fd AX AE z z z z<|Ac<|tn 50 z z z z z<|be hr4 fun x15 hx6 hr4=>be hr4 fun x16 hx7 hr4=>wAS (l':=[(1,u2),(3,u5),(6,(ptr b1 0)),(9,v1),(10,v2),(11,(I x5)),(27,(I x5)),(28,u5),(29,(I (List.length a4:Int))),(30,(.bool (decide (x5 < (List.length a4:Int))))),(33,u5),(34,(I x5)),(35,(ptr b4 o1)),(36,(ptr b4 (o1+0))),(37,(I x7.1)),(38,(ptr b1 1)),(39,u4),(40,(I (List.length a3.2:Int))),(41,(I (w64 ((List.length a3.2:Int) - 1)))),(42,(.bool x8)),(43,(.bool (!x8))),(44,(.bool false)),(45,v2),(46,u5),(47,(I x5)),(48,(ptr b5 o2)),(49,(ptr b5 (o2+0))),(50,(I x9.1)),(51,(.bool x10)),(52,(.bool x10)),(53,(.bool false)),(54,u5),(55,(I x5)),(56,(ptr b6 o3)),(57,(ptr b6 (o3+1))),(58,(I x11.2)),(59,u2),(60,(I (List.length a2:Int))),(61,(I (w64 ((List.length a2:Int) - 1)))),(62,(.bool x12)),(63,(.bool (!x12))),(64,(.bool (!x12))),(65,(.bool false)),(66,u2),(67,u5),(68,(I x5)),(69,(ptr b7 o4)),(70,(ptr b7 (o4+1))),(74,(ptr b1 1)),(76,u5),(77,(I x5)),(78,(ptr b8 o5)),(79,(ptr b8 (o5+0))),(83,v1)]) ⟨z,z,z,z,z,z,z,z,z,z,z,z,z,z,z,z,z,z,z,z,z,z,z,z,z,z,z,z,z,z,z,z,z,z,z,z,z,z,z,z,z,z,z,z,z,z,z,z,z,z,z,z,z,z,Ai⟩<|Bw [⟨38,[],fun vs=>Bh (I x13.2),[]⟩,⟨39,[],fun vs=>Ci [] w0 x15,[]⟩,⟨40,[],fun vs=>Ct [] w0 x15,[]⟩,⟨42,[],fun vs=>Bh u4,[]⟩,⟨47,[],fun vs=>Bh (I x14.1),[]⟩,⟨48,[],fun vs=>Ci [] w0 x16,[]⟩,⟨49,[],fun vs=>Ct [] w0 x16,[]⟩] [[],[38],[39],[],[],[42,47],[48]] 3 z (by kernel_rfl) (by kernel_rfl) z ?_ ?_
     ·refine An z ?_ ?_
      ·intro w15 hB14
       refine Ar<|⟨_,z,?_⟩
       refine Aj z z<|A3 ty3 h7.snd (hC18.keep.then hB14) z z fun v6 h9=>?_
       obtain rfl:=Bn h9
       exact Ac<|Ay (Al _ _) z z ⟨z,z⟩
      refine An z ?_ ?_
      ·intro w15 hB14
       refine AK z z z ?_
       rintro _ _ ⟨rfl,rfl⟩ _
       refine Ar<|⟨_,z,?_⟩
       exact Aj z z<|AG Bc ty71 g2 hx6 z z z fun b9 o6 h10=>Ac<|Ay (Al _ _) z z ⟨z,_,_,z,h10⟩
      refine An z ?_ ?_
      ·intro w15 hB14
       refine AK z z z ?_
       rintro _ _ ⟨rfl,b9,o6,rfl,h10⟩ _
       refine Ar<|⟨_,z,?_⟩
       exact Aj z z<|A3 ty71 h10 (hC18.keep.then hB14) z z fun v9 h13=>Ac<|Ay (Al _ _) z z ⟨z,h13⟩
      refine An z ?_ ?_
      ·intro w15 hB14
       refine Ar<|⟨_,z,?_⟩
       exact Aj z z<|Ao (hC18.grow hB14) 2 z z Ba z z<|Ac<|Ay (Al _ _) z z ⟨z,z⟩
      refine An z ?_ ?_
      ·intro w15 hB14
       refine Ar<|⟨_,z,?_⟩
       refine Aj z z<|A3 ty3 h8.fst (hC18.keep.then hB14) z z fun v10 h14=>?_
       obtain rfl:=Bn h14
       exact Ac<|Ay (Al _ _) z z ⟨z,z⟩
      refine An z ?_ ?_
      ·intro w15 hB14
       refine AK z z z ?_
       rintro _ _ ⟨rfl,rfl⟩ _
       refine AK z z z ?_
       rintro _ _ ⟨rfl,rfl⟩ _
       refine Ar<|⟨_,z,?_⟩
       exact Aj z z<|AG Ax ty84 g4 hx7 z z z fun b10 o7 h15=>Ac<|Ay (Al _ _) z z ⟨z,_,_,z,h15⟩
      refine An z ?_ ?_
      ·intro w15 hB14
       refine AK z z z ?_
       rintro _ _ ⟨rfl,b10,o7,rfl,h15⟩ _
       refine Ar<|⟨_,z,?_⟩
       exact Aj z z<|A3 ty84 h15 (hC18.keep.then hB14) z z fun v13 h18=>Ac<|Ay (Al _ _) z z ⟨z,h18⟩
      exact Bp
     intro w16 hB15
     refine At z z z ?_
     rintro _ _ ⟨rfl,rfl⟩
     refine At z z z ?_
     rintro _ _ ⟨rfl,b9,o6,rfl,h10⟩
     refine At z z z ?_
     rintro v9 _ ⟨rfl,h13⟩
     obtain ⟨v8,rfl,h12⟩:=Cz h13
     refine At z z z ?_
     rintro _ _ ⟨rfl,rfl⟩
     refine At z z z ?_
     rintro _ _ ⟨rfl,rfl⟩
     refine At z z z ?_
     rintro _ _ ⟨rfl,b10,o7,rfl,h15⟩
     refine At z z z ?_
     rintro v13 _ ⟨rfl,h18⟩
     obtain ⟨v12,rfl,h17⟩:=Cc h18
     refine B0 fun hn2 hb2=>have hC19:=hC18.grow hB15;be hr4 fun x17 hr8 hr4=>oe 51 z<|Aj z z<|cb Tryz.call55 z z (c_S_CanCall x15 v8 (h12.now hC19.keep) x16 v12 (h17.now hC19.keep) x3 v1 ((hC19.ro 1 z).now (Aq _ _)) x17 hr8) fun w17 hB16=>have hC20:=hC19.grow hB16;Ac<|tg 52 z z z z (Cm z)<|Aj z z<|Bx z z<|Ac<|tq 53 z z z z<|dn<|?_
     obtain rfl:=Aa hr4
     exact Ak (l':=[(1,u2),(3,u5),(6,(ptr b1 0)),(9,v1),(10,v2),(11,(I x5)),(86,(.bool (!x17)))]) ⟨z,z,z,z,z,z,z,Ai⟩<|⟨(!x17),z,z,(((((((Ap hB8).then hB10).then hB11).then hB12).then hB13).then hB15).then hB16).below,hC20⟩
    rintro _ w7 ⟨x6,rfl,rfl,hB7,hC13⟩
    try dsimp only at hL1
    refine AI z (fun hc7=>?_) (fun hc7=>?_)
    ·replace hL1:=AC hL1 hc7
     refine Ad<|Ae z z<|Ac<|AP<|Az<|Bk<|Az<|Az<|Bk<|Az<|Az<|?_
     obtain rfl:=Aa hL1
     dsimp only at hF
     obtain rfl:=Aa hF
     exact A8 z z<|⟨_,z,AR hC13 _⟩
    replace hL1:=AD hL1 hc7
    refine AJ<|Am<|Ad<|Ag z z<|Ag z z<|Ag z z<|be hL1 fun x18 hx8 hL1=>AG A5 ty75 g5 hx8 z z z fun b11 o8 h19=>fd AX AE z z z z<|A3 ty3 h19.fst hC13.keep z z fun v14 h20=>?_
    obtain rfl:=Bn h20
    refine A2 (vs:=[(I x18.1)]) hC13 Ah ty3 z z z z (fac z<|fa0) z z (fun b12 w18 hC21 hB17=>?_)
    have hC22:=hC21.row0 (α:=Int)
    have hC23:=hC22.triv (Bm (x18.1))
    have hC24:=hC23.row1
    have hC25:=hC24.front 1 z
    dsimp only [List.eraseIdx,List.cons_append,List.nil_append,List.append_nil] at hC25
    have hC26:Ctx [] w0 w18 (Ab (.slice (some ⟨b12,0,none⟩) 1 1) ([x18.1]:List Int)::[Ab v2 (x4:(List Int)),Ab v1 (x3:(List Int)),Af b1 [u3,u4]]):=hC25.rowOwn (by simp [maxLen])
    refine be hL1 fun x19 hx9 hL1=>Bi (α:=Int) hC26 1 z (hC26.ro 0 z) (Aq _ _) Ah ty3 z hx9 z z z fun v15 w19 hC27=>?_
    try dsimp only [List.set] at hC27
    refine Ae z z<|Ac<|B1 12 z hmix fun w20 hB18=>have hC28:=hC27.grow hB18;tm 0 z z z<|tf 1 A0 AU z z z z z<|tm 3 z z z<|tm 4 z z z<|be hL1 fun x20 hx10 hL1=>tk 5 z z (B4 A5 ty75 g5 hx10 z z)<|AG A5 ty75 g5 hx10 z z z fun b13 o9 h21=>Ac<|tf 6 AX AE z z z z z<|wAS (l':=[(1,u2),(3,u5),(6,(ptr b1 0)),(9,v1),(10,v15),(11,(I x5)),(86,(.bool x6)),(87,v2),(88,u5),(89,(I x5)),(90,(ptr b11 o8)),(91,(ptr b11 (o8+0))),(92,(I x18.1)),(93,(.slice (some ⟨b12,0,none⟩) 1 1)),(94,v15),(95,v1),(96,(ptr b1 1)),(98,u5),(99,(I x5)),(100,(ptr b13 o9)),(101,(ptr b13 (o9+0)))]) ⟨z,z,z,z,z,z,z,z,z,z,z,z,z,z,z,z,z,z,z,z,z,Ai⟩<|Bw [⟨2,[],fun vs=>Bh u4,[]⟩,⟨7,[],fun vs=>Bh (I x20.1),[]⟩] [[],[]] 4 z (by kernel_rfl) (by kernel_rfl) z ?_ ?_
    ·refine An z ?_ ?_
     ·intro w21 hB19
      refine Ar<|⟨_,z,?_⟩
      exact Ao (hC28.grow hB19) 3 z z Ba z z<|Ac<|Ay (Al _ _) z z ⟨z,z⟩
     refine An z ?_ ?_
     ·intro w21 hB19
      refine Ar<|⟨_,z,?_⟩
      refine A3 ty3 h21.fst (hC28.keep.then hB19) z z (fun v16 h22=>?_)
      obtain rfl:=Bn h22
      exact Ac<|Ay (Al _ _) z z ⟨z,z⟩
     exact Bp
    intro w22 hB20
    refine At z z z ?_
    rintro _ _ ⟨rfl,rfl⟩
    refine At z z z ?_
    rintro _ _ ⟨rfl,rfl⟩
    refine B0 fun hn3 hb3=>have hC29:=hC28.grow hB20;be hL1 fun x21 hx11 hL1=>tk 8 z z (B4 Ax ty84 g4 hx11 z z)<|AG Ax ty84 g4 hx11 z z z fun b14 o10 h23=>Ac<|oe 9 z<|A3 ty84 h23 hC29.keep z z fun v17 h24=>?_
    obtain ⟨v18,rfl,h25⟩:=Cc h24
    refine Ac<|be hL1 fun x22 hr9 hL1=>oe 10 z<|A7 Tryz.call57 z z (c_S_l6Bind x3 v1 ((hC29.ro 2 z).now (Aq _ _)) x21 v18 (h25.now hC29.keep) x22 hr9)<|?_
    rintro v19 w23 ⟨hB21,F1,hv6,hn4,hb4⟩
    have hC30:=hC29.push hB21 (A:=Ab v19 x22) hv6 hn4 hb4
    exact Ac<|ta 11 z z z<|dn<|AM<|Am<|Bb<|Ag z z<|Bj z z z<|Ae z z<|Ac<|have hC31:=hC30.f4;have hC32:=hC31.f1;have hC33:=hC32.f3;have hC34:=hC33.h3;Ak (l':=[(1,u2),(3,u5),(6,(ptr b1 0)),(9,v19),(10,v15),(11,(I (w64 (x5+1))))]) ⟨z,z,z,z,z,z,Ai⟩<|⟨k1,Av _,v19,x22,v15,x19,w64 (x5+1),z,hC34,hL1⟩
   replace hL1:=AD hL1 hc3
   refine Bt (A1 (A1 (Be ?_)))
   obtain rfl:=Aa hL1
   have hC35:=hC12.h0
   exact Ak (l':=[]) Ai<|⟨z,z,hC35⟩
 rintro l4 _ w24 hs4 ⟨rfl,rfl,hC36⟩
 try dsimp only at hF
 refine AL hs4 ?_
 clear hs4
 refine Ad<|Ae z z<|Ac<|AP<|?_
 obtain rfl:=Aa hF
 exact A8 z z<|⟨_,z,AR hC36 _⟩
theorem c_S_l30Meets {w0:World} (a1:(List Int)) (u1:Value) (g1:RO [] w0 u1 a1) (a2:(List Int)) (u2:Value) (g2:RO [] w0 u2 a2) (rr:Bool) (hF:S.l30Meets a1 a2=some rr) :
 Calls Tryz.prog 44 [u1,u2].toArray w0 fun e w'=>∃v,e=.returned v∧Res w0 rr v w':=by
 refine Au Tryz.func44 z z ?_
 have hC0:=AA w0
 unfold S.l30Meets at hF
 refine Ad<|Ae z z<|Ac<|A6<|Ad<|Ae z z<|Ac<|be hF fun r1 hr1 hF=>Bd (fun l w=>.inl ()=r1∧l=[]∧Below w0.heap.size w0 w∧Ctx [] w0 w []) ?_ ?_
 ·refine AH<|wS (l':=[(0,u1),(1,u2),(5,(I 0))]) ⟨z,z,z,Ai⟩<|Bu (fun k l w=>∃x1:Int,l=[(0,u1),(1,u2),(5,(I x1))]∧Below w0.heap.size w0 w∧Ctx [] w0 w []∧S.l30Meets_l1 a1 a2 k x1=some r1) FUEL ⟨0,z,(Al _ _),hC0,hr1⟩<|?_
  clear hr1
  rintro k1 _ w1 ⟨x1,rfl,hB1,hC1,hL1⟩
  cases k1 with
  | zero=>rw [S.l30Meets_l1] at hL1; cases hL1
  | succ k1 =>
   rw [S.l30Meets_l1] at hL1
   refine A6<|Ad<|Ag z z<|Ag z z<|AZ Ah g1 z z<|Bo z z z<|Ac<|AI z (fun hc1=>?_) (fun hc1=>?_)
   ·replace hL1:=AC hL1 hc1
    refine AJ<|Am<|A6<|AH<|Ad<|Ag z z<|Ag z z<|Ag z z<|be hL1 fun x2 hx1 hL1=>AG Ah ty3 g1 hx1 z z z fun b1 o1 h1=>A3 ty3 h1 hC1.keep z z fun v1 h2=>?_
    obtain rfl:=Bn h2
    refine be hL1 fun x3 hr2 hL1=>cb Cl z z (c_S_l2Has a2 u2 (g2.now hC1.keep) x2 x3 hr2) fun w2 hB2=>have hC2:=hC1.grow hB2;Ac<|AI z (fun hc2=>?_) (fun hc2=>?_)
    ·replace hL1:=AC hL1 hc2
     refine Ad<|Ae z z<|Ac<|AP<|Bk<|Az<|Az<|Bk<|Az<|Az<|?_
     obtain rfl:=Aa hL1
     dsimp only at hF
     obtain rfl:=Aa hF
     exact A8 z z<|⟨_,z,AR hC2 _⟩
    replace hL1:=AD hL1 hc2
    exact AJ<|AM<|Am<|Bb<|Ag z z<|Bj z z z<|Ae z z<|Ac<|Ak (l':=[(0,u1),(1,u2),(5,(I (w64 (x1+1))))]) ⟨z,z,z,Ai⟩<|⟨k1,Av _,w64 (x1+1),z,((Ap hB1).then hB2).below,hC2,hL1⟩
   replace hL1:=AD hL1 hc1
   refine Bt (A1 (A1 (Be ?_)))
   obtain rfl:=Aa hL1
   exact Ak (l':=[]) Ai<|⟨z,z,(Ap hB1).below,hC1⟩
 rintro l2 _ w3 hs2 ⟨rfl,rfl,hB3,hC3⟩
 try dsimp only at hF
 refine AL hs2 ?_
 clear hs2
 refine Ad<|Ae z z<|Ac<|AP<|?_
 obtain rfl:=Aa hF
 exact A8 z z<|⟨_,z,AR hC3 _⟩
theorem c_S_IsPrivateOrder {w0:World} (a1:(List Int)) (u1:Value) (g1:RO [] w0 u1 a1) (a2:(List (Int × (List Int) × Int × Int × Int))) (u2:Value) (g2:RO [] w0 u2 a2) (a3:((List Int) × (List (Int × (List Int))))) (u3:Value) (g3:RO [] w0 u3 a3.1) (u4:Value) (g4:RO [] w0 u4 a3.2) (a4:(List (Int × Int))) (u5:Value) (g5:RO [] w0 u5 a4) (a5:(List Int)) (u6:Value) (g6:RO [] w0 u6 a5) (rr:Bool) (hF:S.IsPrivateOrder a1 a2 a3 a4 a5=some rr) :
 Calls Tryz.prog 10 [u1,u2,(.agg #[u3,u4]),u5,u6].toArray w0 fun e w'=>∃v,e=.returned v∧Res w0 rr v w':=by
 refine Au Tryz.func10 z z ?_
 have hC0:=AA w0
 unfold S.IsPrivateOrder at hF
 refine Ad<|Bv (cs:=[u3,u4]) hC0 z z z fun b1 w1 hC1 hB1 hN1=>Ae z z<|Ac<|be hF fun r1 hr1 hF=>BA (fun l w=>∃x1:Bool,x1=r1∧l=[(10,(.bool x1))]∧Below w1.heap.size w1 w∧Ctx [] w0 w []) ?_ ?_
 ·refine Bb<|Ag z z<|Ag z z<|A9 [u3,u4] hC1 0 z z z AT A4 z z<|Ag z z<|be hr1 fun x2 hr2 hr1=>cb Tryz.call43 z z (c_S_IsOrder a1 u1 (g1.now hC1.keep) a2 u2 (g2.now hC1.keep) (a3.1,a3.2) u3 (g3.now hC1.keep) u4 (g4.now hC1.keep) a4 u5 (g5.now hC1.keep) x2 hr2) fun w3 hB3=>have hC3:=hC1.grow hB3;Ag z z<|Br (fun hc1=>?_) (fun hc1=>?_)
  ·replace hr1:=AC hr1 hc1
   refine Aj z z<|Ag z z<|Aj z z<|A9 [u3,u4] hC3 0 z z z AT A4 z z<|Aj z z<|Ag z z<|be hr1 fun x3 hr3 hr1=>Aj z z<|A7 Tryz.call39 z z (c_S_Disclosed a2 u2 (g2.now hC3.keep) (a3.1,a3.2) u3 (g3.now hC3.keep) u4 (g4.now hC3.keep) a4 u5 (g5.now hC3.keep) x3 hr3)<|?_
   rintro v1 w4 ⟨hB4,F1,hv2,hn1,hb1⟩
   have hC4:=hC3.push hB4 (A:=Ab v1 x3) hv2 hn1 hb1
   refine Aj z z<|Ag z z<|be hr1 fun x4 hr4 hr1=>Aj z z<|cb Tryz.call44 z z (c_S_l30Meets x3 v1 ((hC4.ro 0 z).now (Aq _ _)) a5 u6 (g6.now hC4.keep) x4 hr4) fun w5 hB5=>have hC5:=hC4.grow hB5;Aj z z<|Bx z z<|AV z z z<|Ae z z<|Ac<|?_
   obtain rfl:=Aa hr1
   have hC6:=hC5.h0
   exact Ak (l':=[(10,(.bool (!x4)))]) ⟨z,Ai⟩<|⟨(!x4),z,z,(((Ap hB3).then hB4).then hB5).below,hC6⟩
  replace hr1:=AD hr1 hc1
  refine gs z z z z<|gs z z z z<|gs z z z z<|gs z z z z<|gs z z z z<|gs z z z z<|gs z z z z<|AS z z z<|Ae z z<|Ac<|?_
  obtain rfl:=Aa hr1
  have hC7:=hC3.h0
  exact Ak (l':=[(10,(.bool false))]) ⟨z,Ai⟩<|⟨false,z,z,(Ap hB3).below,hC7⟩
 rintro _ w2 ⟨x1,rfl,rfl,hB2,hC2⟩
 try dsimp only at hF
 refine AP ?_
 obtain rfl:=Aa hF
 exact A8 z z<|⟨_,z,AR hC2 _⟩
theorem c_M_within {w0:World} (a1:Int) (a2:Int) (a3:Int) (rr:Bool) (hF:M.within a1 a2 a3=some rr) :
 Calls Tryz.prog 78 [(I a1),(I a2),(I a3)].toArray w0 fun e w'=>∃v,e=.returned v∧Res w0 rr v w':=by
 refine Au Tryz.func78 z z ?_
 have hC0:=AA w0
 unfold M.within at hF
 refine Ad<|Ae z z<|Ac<|be hF fun r1 hr1 hF=>BA (fun l w=>∃x1:Bool,x1=r1∧l=[(6,(.bool x1))]∧Below w0.heap.size w0 w∧Ctx [] w0 w []) ?_ ?_
 ·refine Bb<|Ag z z<|Ag z z<|Cq z z z<|Ag z z<|Br (fun hc1=>?_) (fun hc1=>?_)
  ·replace hr1:=AC hr1 hc1
   refine Aj z z<|Ag z z<|Aj z z<|Ag z z<|Aj z z<|C7 z z z<|AV z z z<|Ae z z<|Ac<|?_
   obtain rfl:=Aa hr1
   exact Ak (l':=[(6,(.bool (decide (a1 ≤ a3))))]) ⟨z,Ai⟩<|⟨(decide (a1 ≤ a3)),z,z,(Al _ _),hC0⟩
  replace hr1:=AD hr1 hc1
  refine gs z z z z<|gs z z z z<|gs z z z z<|AS z z z<|Ae z z<|Ac<|?_
  obtain rfl:=Aa hr1
  exact Ak (l':=[(6,(.bool false))]) ⟨z,Ai⟩<|⟨false,z,z,(Al _ _),hC0⟩
 rintro _ w1 ⟨x1,rfl,rfl,hB1,hC1⟩
 try dsimp only at hF
 refine AP ?_
 obtain rfl:=Aa hF
 exact A8 z z<|⟨_,z,AR hC1 _⟩
theorem c_M_isValue {w0:World} (a1:Int) (rr:Bool) (hF:M.isValue a1=some rr) :
 Calls Tryz.prog 98 [(I a1)].toArray w0 fun e w'=>∃v,e=.returned v∧Res w0 rr v w':=by
 refine Au Tryz.func98 z z ?_
 have hC0:=AA w0
 unfold M.isValue at hF
 refine Ad<|Ae z z<|Ac<|Ad<|Ag z z<|be hF fun x1 hr1 hF=>cb BE z z (c_M_within a1 0 9 x1 hr1) fun w1 hB1=>have hC1:=hC0.grow hB1;Ae z z<|Ac<|AP<|?_
 obtain rfl:=Aa hF
 exact A8 z z<|⟨_,z,AR hC1 _⟩
theorem c_M_passed {w0:World} (a1:(Int × (List Int) × Int × Int × Int)) (u1:Value) (g1:RO [] w0 u1 a1.2.1) (a2:(Int × (List Int))) (u2:Value) (g2:RO [] w0 u2 a2.2) (rr:(List Int)) (hF:M.passed a1 a2=some rr) :
 Calls Tryz.prog 79 [(.agg #[(I a1.1),u1,(I a1.2.2.1),(I a1.2.2.2.1),(I a1.2.2.2.2)]),(.agg #[(I a2.1),u2])].toArray w0 fun e w'=>∃v,e=.returned v∧Res w0 rr v w':=by
 refine Au Tryz.func79 z z ?_
 have hC0:=AA w0
 unfold M.passed at hF
 refine Ad<|Bv (cs:=[(I a1.1),u1,(I a1.2.2.1),(I a1.2.2.2.1),(I a1.2.2.2.2)]) hC0 z z z fun b1 w1 hC1 hB1 hN1=>Bv (cs:=[(I a2.1),u2]) hC1 z z z fun b2 w2 hC2 hB2 hN2=>Ae z z<|Ac<|Ad<|A2 (vs:=[]) hC2 Ah ty3 z z z z (by simp) z z fun b3 w3 hC3 hB3=>?_
 have hC4:=hC3.row0 (α:=Int)
 have hC5:=hC4.front 1 z
 dsimp only [List.eraseIdx,List.cons_append,List.nil_append,List.append_nil] at hC5
 have hC6:Ctx [] w0 w3 (Ab (.slice (some ⟨b3,0,none⟩) 0 0) (([]:List Int):List Int)::[Af b2 [(I a2.1),u2],Af b1 [(I a1.1),u1,(I a1.2.2.1),(I a1.2.2.2.1),(I a1.2.2.2.2)]]):=hC5.rowOwn (by simp [maxLen])
 refine Ae z z<|Ac<|A6<|Ad<|fd AN Aw z z z z<|Ao hC6 2 z z AQ z z<|AZ Ah g1 z z<|Ag z z<|Ac<|be hF fun r1 hr1 hF=>Bd (fun l w=>∃v2:Value,∃x3:(List Int),x3=r1∧l=[(5,v2)]∧Ctx [] w0 w [Ab v2 (x3:(List Int))]) ?_ ?_
 ·refine AH<|have hC23:=hC6.f1;have hC24:=hC23.f1;have hC25:=hC24.h2;wS (l':=[(3,(ptr b2 0)),(5,(.slice (some ⟨b3,0,none⟩) 0 0)),(10,u1),(11,(I (List.length a1.2.1:Int))),(12,(I 0))]) ⟨z,z,z,z,z,Ai⟩<|Bu (fun k l w=>∃v1:Value,∃x1:(List Int),∃x2:Int,l=[(3,(ptr b2 0)),(5,v1),(10,u1),(11,(I (List.length a1.2.1:Int))),(12,(I x2))]∧Ctx [] w0 w [Ab v1 (x1:(List Int)),Af b2 [(I a2.1),u2]]∧M.passed_l1 a1 a2 k x1 x2=some r1) FUEL ⟨(.slice (some ⟨b3,0,none⟩) 0 0),([]:List Int),0,z,hC25,hr1⟩<|?_
  clear hr1
  rintro k1 _ w4 ⟨v1,x1,x2,rfl,hC7,hL1⟩
  cases k1 with
  | zero=>rw [M.passed_l1] at hL1; cases hL1
  | succ k1 =>
   rw [M.passed_l1] at hL1
   refine Ad<|Bo z z z<|Ac<|A6<|AI z (fun hc1=>?_) (fun hc1=>?_)
   ·replace hL1:=AC hL1 hc1
    refine AJ<|Am<|A6<|AH<|Ad<|be hL1 fun x4 hx1 hL1=>AG Ah ty3 g1 hx1 z z z fun b4 o1 h1=>A3 ty3 h1 hC7.keep z z fun v3 h2=>?_
    obtain rfl:=Bn h2
    refine Ae z z<|Ac<|be hL1 fun r2 hr2 hL1=>BA (fun l w=>∃x5:Bool,x5=r2∧l=[(3,(ptr b2 0)),(5,v1),(7,(I x4)),(10,u1),(11,(I (List.length a1.2.1:Int))),(12,(I x2)),(29,(.bool x5))]∧Below w4.heap.size w4 w∧Ctx [] w0 w [Ab v1 (x1:(List Int)),Af b2 [(I a2.1),u2]]) ?_ ?_
    ·refine Bb<|Ag z z<|fd AB Aw z z z z<|Ao hC7 1 z z AQ z z<|AZ Ah g2 z z<|BN z z z<|be hr2 fun x6 hr3 hr2=>cb BE z z (c_M_within x4 0 (w64 ((List.length a2.2:Int) - 1)) x6 hr3) fun w6 hB6=>have hC9:=hC7.grow hB6;Ag z z<|Br (fun hc2=>?_) (fun hc2=>?_)
     ·replace hr2:=AC hr2 hc2
      refine Aj z z<|fd AB Aw z z z z<|Aj z z<|Ao hC9 1 z z AQ z z<|Aj z z<|Ag z z<|be hr2 fun x7 hx2 hr2=>Aj z z<|AG Ah ty3 g2 hx2 z z z fun b5 o2 h3=>Aj z z<|A3 ty3 h3 hC9.keep z z fun v4 h4=>?_
      obtain rfl:=Bn h4
      refine be hr2 fun x8 hr4 hr2=>Aj z z<|cb Tryz.call98 z z (c_M_isValue x7 x8 hr4) fun w7 hB7=>have hC10:=hC9.grow hB7;AV z z z<|Ac<|?_
      obtain rfl:=Aa hr2
      exact Ak (l':=[(3,(ptr b2 0)),(5,v1),(7,(I x4)),(10,u1),(11,(I (List.length a1.2.1:Int))),(12,(I x2)),(29,(.bool x8))]) ⟨z,z,z,z,z,z,z,Ai⟩<|⟨x8,z,z,((Ap hB6).then hB7).below,hC10⟩
     replace hr2:=AD hr2 hc2
     refine gs z z z z<|gs z z z z<|gs z z z z<|gs z z z z<|gs z z z z<|gs z z z z<|AS z z z<|Ac<|?_
     obtain rfl:=Aa hr2
     exact Ak (l':=[(3,(ptr b2 0)),(5,v1),(7,(I x4)),(10,u1),(11,(I (List.length a1.2.1:Int))),(12,(I x2)),(29,(.bool false))]) ⟨z,z,z,z,z,z,z,Ai⟩<|⟨false,z,z,(Ap hB6).below,hC9⟩
    rintro _ w5 ⟨x5,rfl,rfl,hB5,hC8⟩
    try dsimp only at hL1
    refine be hL1 fun r3 hr5 hL1=>Bd (fun l w=>∃v5:Value,∃x9:(List Int),x9=r3∧l=[(3,(ptr b2 0)),(5,v5),(10,u1),(11,(I (List.length a1.2.1:Int))),(12,(I x2))]∧Ctx [] w0 w [Ab v5 (x9:(List Int)),Af b2 [(I a2.1),u2]]) ?_ ?_
    ·refine AI z (fun hc3=>?_) (fun hc3=>?_)
     ·replace hr5:=AC hr5 hc3
      refine Bb<|Ag z z<|fd AB Aw z z z z<|Ao hC8 1 z z AQ z z<|Ag z z<|be hr5 fun x10 hx3 hr5=>AG Ah ty3 g2 hx3 z z z fun b6 o3 h5=>A3 ty3 h5 hC8.keep z z fun v6 h6=>?_
      obtain rfl:=Bn h6
      refine A2 (vs:=[(I x10)]) hC8 Ah ty3 z z z z (fac z<|fa0) z z (fun b7 w10 hC12 hB9=>?_)
      have hC13:=hC12.row0 (α:=Int)
      have hC14:=hC13.triv (Bm (x10))
      have hC15:=hC14.row1
      have hC16:=hC15.front 1 z
      dsimp only [List.eraseIdx,List.cons_append,List.nil_append,List.append_nil] at hC16
      have hC17:Ctx [] w0 w10 (Ab (.slice (some ⟨b7,0,none⟩) 1 1) ([x10]:List Int)::[Ab v1 (x1:(List Int)),Af b2 [(I a2.1),u2]]):=hC16.rowOwn (by simp [maxLen])
      refine be hr5 fun x11 hx4 hr5=>Bi (α:=Int) hC17 1 z (hC17.ro 0 z) (Aq _ _) Ah ty3 z hx4 z z z fun v7 w11 hC18=>?_
      try dsimp only [List.set] at hC18
      refine Ae z z<|Ac<|?_
      obtain rfl:=Aa hr5
      have hC19:=hC18.f2
      have hC20:=hC19.f2
      have hC21:=hC20.h2
      exact Ak (l':=[(3,(ptr b2 0)),(5,v7),(10,u1),(11,(I (List.length a1.2.1:Int))),(12,(I x2))]) ⟨z,z,z,z,z,Ai⟩<|⟨v7,x11,z,z,hC21⟩
     replace hr5:=AD hr5 hc3
     refine AJ ?_
     obtain rfl:=Aa hr5
     exact Ak (l':=[(3,(ptr b2 0)),(5,v1),(10,u1),(11,(I (List.length a1.2.1:Int))),(12,(I x2))]) ⟨z,z,z,z,z,Ai⟩<|⟨v1,x1,z,z,hC8⟩
    rintro l3 _ w9 hs3 ⟨v5,x9,rfl,rfl,hC11⟩
    try dsimp only at hL1
    refine AM<|AL hs3<|?_
    clear hs3
    exact Bb<|Bj z z z<|Ag z z<|Ac<|Ak (l':=[(3,(ptr b2 0)),(5,v5),(10,u1),(11,(I (List.length a1.2.1:Int))),(12,(I (w64 (x2+1))))]) ⟨z,z,z,z,z,Ai⟩<|⟨k1,Av _,v5,x9,w64 (x2+1),z,hC11,hL1⟩
   replace hL1:=AD hL1 hc1
   refine Bt (A1 (A1 (Be ?_)))
   obtain rfl:=Aa hL1
   have hC22:=hC7.h1
   exact Ak (l':=[(5,v1)]) ⟨z,Ai⟩<|⟨v1,x1,z,z,hC22⟩
 rintro l4 _ w12 hs4 ⟨v2,x3,rfl,rfl,hC26⟩
 try dsimp only at hF
 refine AL hs4 ?_
 clear hs4
 refine Ad<|Ag z z<|Ae z z<|Ac<|AP<|?_
 obtain rfl:=Aa hF
 exact A8 z z<|⟨_,z,Co hC26 0 z⟩
theorem c_Slices_Sort_Lint_int {Fs:List (List Nat)} {w0:World} (a1:(List Int)) (u1:Value) (hH:Hold [Ab u1 (a1:(List Int))] w0 Fs) (hn:Fs.flatten.Nodup) (rr:(List Int)) (hF:Slices.Sort_Lint_int a1=some rr) :
    Calls Tryz.prog 80 [u1].toArray w0 fun e w'=>∃v,e=.returned v∧v=(.tuple #[])∧Ctx Fs.flatten w0 w' [Ab u1 (rr:(List Int))]:=sort_calls Tryz.lays189 a1 u1 hH hn rr hF
theorem c_Slices_Compact_Lint_int {Fs:List (List Nat)} {w0:World} (a1:(List Int)) (u1:Value) (hH:Hold [Ab u1 (a1:(List Int))] w0 Fs) (hn:Fs.flatten.Nodup) (rr:(List Int)) (hF:Slices.Compact_Lint_int a1=some rr) :
    Calls Tryz.prog 81 [u1].toArray w0 fun e w'=>∃v,e=.returned v∧∃q0:Value,v=q0∧Ctx Fs.flatten w0 w' [Ab q0 (rr:(List Int))]:=compact_calls Tryz.laysNm220 a1 u1 hH hn rr hF
theorem c_M_Disclosed {w0:World} (a1:(List (Int × (List Int) × Int × Int × Int))) (u1:Value) (g1:RO [] w0 u1 a1) (a2:((List Int) × (List (Int × (List Int))))) (u2:Value) (g2:RO [] w0 u2 a2.1) (u3:Value) (g3:RO [] w0 u3 a2.2) (a3:(List (Int × Int))) (u4:Value) (g4:RO [] w0 u4 a3) (rr:(List Int)) (hF:M.Disclosed a1 a2 a3=some rr) :
 Calls Tryz.prog 38 [u1,(.agg #[u2,u3]),u4].toArray w0 fun e w'=>∃v,e=.returned v∧Res w0 rr v w':=by
 refine Au Tryz.func38 z z ?_
 have hC0:=AA w0
 unfold M.Disclosed at hF
 refine Ad<|Bv (cs:=[u2,u3]) hC0 z z z fun b1 w1 hC1 hB1 hN1=>Ae z z<|Ac<|Ad<|A2 (vs:=[]) hC1 Ah ty3 z z z z (by simp) z z fun b2 w2 hC2 hB2=>?_
 have hC3:=hC2.row0 (α:=Int)
 have hC4:=hC3.front 1 z
 dsimp only [List.eraseIdx,List.cons_append,List.nil_append,List.append_nil] at hC4
 have hC5:Ctx [] w0 w2 (Ab (.slice (some ⟨b2,0,none⟩) 0 0) (([]:List Int):List Int)::[Af b1 [u2,u3]]):=hC4.rowOwn (by simp [maxLen])
 refine Ae z z<|Ac<|A6<|Ad<|Ag z z<|AZ A5 g4 z z<|Ag z z<|Ac<|be hF fun r1 hr1 hF=>Bd (fun l w=>∃v2:Value,∃x3:(List Int),x3=r1∧l=[(7,v2)]∧Ctx [] w0 w [Ab v2 (x3:(List Int))]) ?_ ?_
 ·refine AH<|wS (l':=[(0,u1),(4,(ptr b1 0)),(7,(.slice (some ⟨b2,0,none⟩) 0 0)),(11,u4),(12,(I (List.length a3:Int))),(13,(I 0))]) ⟨z,z,z,z,z,z,Ai⟩<|Bu (fun k l w=>∃v1:Value,∃x1:(List Int),∃x2:Int,l=[(0,u1),(4,(ptr b1 0)),(7,v1),(11,u4),(12,(I (List.length a3:Int))),(13,(I x2))]∧Ctx [] w0 w [Ab v1 (x1:(List Int)),Af b1 [u2,u3]]∧M.Disclosed_l1 a3 a2 a1 k x1 x2=some r1) FUEL ⟨(.slice (some ⟨b2,0,none⟩) 0 0),([]:List Int),0,z,hC5,hr1⟩<|?_
  clear hr1
  rintro k1 _ w3 ⟨v1,x1,x2,rfl,hC6,hL1⟩
  cases k1 with
  | zero=>rw [M.Disclosed_l1] at hL1; cases hL1
  | succ k1 =>
   rw [M.Disclosed_l1] at hL1
   refine Ad<|Bo z z z<|Ac<|A6<|AI z (fun hc1=>?_) (fun hc1=>?_)
   ·replace hL1:=AC hL1 hc1
    refine AJ<|Am<|A6<|AH<|Ad<|be hL1 fun x4 hx1 hL1=>AG A5 ty75 g4 hx1 z z z fun b3 o1 h1=>A3 ty75 h1 hC6.keep z z fun v3 h2=>?_
    obtain rfl:=ro_st75 h2
    refine By hC6 zero75 z z fun b4 w4 hC7 hB4 hN2=>AO (cs':=[(I x4.1),(I x4.2)]) (new:=[(I x4.1),(I x4.2)]) hC7 0 z z (fac z<|fac z<|fa0) z BI z z fun w5 hC8 hKp1=>?_
    try dsimp only [List.set] at hC8
    have hk1:=AY (Ap hB4) hN2 hKp1
    refine Ac<|be hL1 fun r2 hr2 hL1=>BA (fun l w=>∃x5:Bool,x5=r2∧l=[(0,u1),(4,(ptr b1 0)),(7,v1),(9,(ptr b4 0)),(11,u4),(12,(I (List.length a3:Int))),(13,(I x2)),(31,(.bool x5))]∧Below w5.heap.size w5 w∧Ctx [] w0 w [Af b4 [(I x4.1),(I x4.2)],Ab v1 (x1:(List Int)),Af b1 [u2,u3]]) ?_ ?_
    ·refine Bb<|fd AX AE z z z z<|Ao hC8 0 z z Bl z z<|fd A0 AU z z z z<|Ao hC8 2 z z Ba z z<|AZ Ax g3 z z<|BN z z z<|be hr2 fun x6 hr3 hr2=>cb BE z z (c_M_within x4.1 0 (w64 ((List.length a2.2:Int) - 1)) x6 hr3) fun w7 hB6=>have hC10:=hC8.grow hB6;Ag z z<|Br (fun hc2=>?_) (fun hc2=>?_)
     ·replace hr2:=AC hr2 hc2
      refine Aj z z<|fd AX AE z z z z<|Aj z z<|Ao hC10 0 z z Bl z z<|Aj z z<|Ag z z<|Aj z z<|AZ Bc g1 z z<|Aj z z<|BN z z z<|be hr2 fun x7 hr4 hr2=>Aj z z<|cb BE z z (c_M_within x4.2 0 (w64 ((List.length a1:Int) - 1)) x7 hr4) fun w9 hB7=>have hC11:=hC10.grow hB7;AV z z z<|Ac<|?_
      obtain rfl:=Aa hr2
      exact Ak (l':=[(0,u1),(4,(ptr b1 0)),(7,v1),(9,(ptr b4 0)),(11,u4),(12,(I (List.length a3:Int))),(13,(I x2)),(31,(.bool x7))]) ⟨z,z,z,z,z,z,z,z,Ai⟩<|⟨x7,z,z,((Ap hB6).then hB7).below,hC11⟩
     replace hr2:=AD hr2 hc2
     refine gs z z z z<|gs z z z z<|gs z z z z<|gs z z z z<|gs z z z z<|gs z z z z<|AS z z z<|Ac<|?_
     obtain rfl:=Aa hr2
     exact Ak (l':=[(0,u1),(4,(ptr b1 0)),(7,v1),(9,(ptr b4 0)),(11,u4),(12,(I (List.length a3:Int))),(13,(I x2)),(31,(.bool false))]) ⟨z,z,z,z,z,z,z,z,Ai⟩<|⟨false,z,z,(Ap hB6).below,hC10⟩
    rintro _ w6 ⟨x5,rfl,rfl,hB5,hC9⟩
    try dsimp only at hL1
    refine be hL1 fun r3 hr5 hL1=>Bd (fun l w=>∃v4:Value,∃x8:(List Int),x8=r3∧l=[(0,u1),(4,(ptr b1 0)),(7,v4),(11,u4),(12,(I (List.length a3:Int))),(13,(I x2))]∧Ctx [] w0 w [Ab v4 (x8:(List Int)),Af b1 [u2,u3]]) ?_ ?_
    ·refine AI z (fun hc3=>?_) (fun hc3=>?_)
     ·replace hr5:=AC hr5 hc3
      refine B1 15 z hmix fun w11 hB9=>have hC13:=hC9.grow hB9;tm 0 z z z<|tm 1 z z z<|tf 2 AX AE z z z z z<|tf 6 A0 AU z z z z z<|tf 8 AX AE z z z z z<|be hr5 fun x9 hx2 hr5=>be hr5 fun x10 hx3 hr5=>wAS (l':=[(0,u1),(4,(ptr b1 0)),(7,v1),(9,(ptr b4 0)),(11,u4),(12,(I (List.length a3:Int))),(13,(I x2)),(31,(.bool x5)),(32,v1),(33,u1),(34,(ptr b4 1)),(38,(ptr b1 1)),(40,(ptr b4 0))]) ⟨z,z,z,z,z,z,z,z,z,z,z,z,z,Ai⟩<|Bw [⟨3,[],fun vs=>Bh (I x4.2),[]⟩,⟨4,[],fun vs=>Ci [] w0 x9,[]⟩,⟨5,[],fun vs=>Ct [] w0 x9,[]⟩,⟨7,[],fun vs=>Bh u3,[]⟩,⟨9,[],fun vs=>Bh (I x4.1),[]⟩,⟨10,[],fun vs=>Ci [] w0 x10,[]⟩,⟨11,[],fun vs=>Ct [] w0 x10,[]⟩] [[],[3],[4],[],[],[7,9],[10]] 3 z (by kernel_rfl) (by kernel_rfl) z ?_ ?_
      ·refine An z ?_ ?_
       ·intro w12 hB10
        refine Ar<|⟨_,z,?_⟩
        exact Ao (hC13.grow hB10) 0 z z Bl z z<|Ac<|Ay (Al _ _) z z ⟨z,z⟩
       refine An z ?_ ?_
       ·intro w12 hB10
        refine AK z z z ?_
        rintro _ _ ⟨rfl,rfl⟩ _
        refine Ar<|⟨_,z,?_⟩
        exact AG Bc ty71 g1 hx2 z z z fun b5 o2 h3=>Ac<|Ay (Al _ _) z z ⟨z,_,_,z,h3⟩
       refine An z ?_ ?_
       ·intro w12 hB10
        refine AK z z z ?_
        rintro _ _ ⟨rfl,b5,o2,rfl,h3⟩ _
        refine Ar<|⟨_,z,?_⟩
        exact A3 ty71 h3 (hC13.keep.then hB10) z z fun v7 h6=>Ac<|Ay (Al _ _) z z ⟨z,h6⟩
       refine An z ?_ ?_
       ·intro w12 hB10
        refine Ar<|⟨_,z,?_⟩
        exact Ao (hC13.grow hB10) 2 z z Ba z z<|Ac<|Ay (Al _ _) z z ⟨z,z⟩
       refine An z ?_ ?_
       ·intro w12 hB10
        refine Ar<|⟨_,z,?_⟩
        exact Ao (hC13.grow hB10) 0 z z Bl z z<|Ac<|Ay (Al _ _) z z ⟨z,z⟩
       refine An z ?_ ?_
       ·intro w12 hB10
        refine AK z z z ?_
        rintro _ _ ⟨rfl,rfl⟩ _
        refine AK z z z ?_
        rintro _ _ ⟨rfl,rfl⟩ _
        refine Ar<|⟨_,z,?_⟩
        exact AG Ax ty84 g3 hx3 z z z fun b6 o3 h7=>Ac<|Ay (Al _ _) z z ⟨z,_,_,z,h7⟩
       refine An z ?_ ?_
       ·intro w12 hB10
        refine AK z z z ?_
        rintro _ _ ⟨rfl,b6,o3,rfl,h7⟩ _
        refine Ar<|⟨_,z,?_⟩
        exact A3 ty84 h7 (hC13.keep.then hB10) z z fun v10 h10=>Ac<|Ay (Al _ _) z z ⟨z,h10⟩
       exact Bp
      intro w13 hB11
      refine At z z z ?_
      rintro _ _ ⟨rfl,rfl⟩
      refine At z z z ?_
      rintro _ _ ⟨rfl,b5,o2,rfl,h3⟩
      refine At z z z ?_
      rintro v7 _ ⟨rfl,h6⟩
      obtain ⟨v6,rfl,h5⟩:=Cz h6
      refine At z z z ?_
      rintro _ _ ⟨rfl,rfl⟩
      refine At z z z ?_
      rintro _ _ ⟨rfl,rfl⟩
      refine At z z z ?_
      rintro _ _ ⟨rfl,b6,o3,rfl,h7⟩
      refine At z z z ?_
      rintro v10 _ ⟨rfl,h10⟩
      obtain ⟨v9,rfl,h9⟩:=Cc h10
      refine B0 fun hn1 hb1=>have hC14:=hC13.grow hB11;be hr5 fun x11 hr6 hr5=>oe 12 z<|A7 Tryz.call79 z z (c_M_passed x9 v6 (h5.now hC14.keep) x10 v9 (h9.now hC14.keep) x11 hr6)<|?_
      rintro v11 w14 ⟨hB12,F1,hv3,hn2,hb2⟩
      have hC15:=hC14.push hB12 (A:=Ab v11 x11) hv3 hn2 hb2
      refine Ac<|be hr5 fun x12 hx4 hr5=>oe 13 z<|WL_append_flat8 b8_3 (α:=Int) hC15 2 z (hC15.ro 0 z) (Aq _ _) Ah ty3 z hx4 z z z fun v12 w15 hC16=>?_
      try dsimp only [List.set] at hC16
      refine Ac<|ta 14 z z z<|dn<|?_
      obtain rfl:=Aa hr5
      have hC17:=hC16.f3
      have hC18:=hC17.f3
      have hC19:=hC18.h2
      exact Ak (l':=[(0,u1),(4,(ptr b1 0)),(7,v12),(11,u4),(12,(I (List.length a3:Int))),(13,(I x2))]) ⟨z,z,z,z,z,z,Ai⟩<|⟨v12,x12,z,z,hC19⟩
     replace hr5:=AD hr5 hc3
     refine AJ ?_
     obtain rfl:=Aa hr5
     have hC20:=hC9.f2
     have hC21:=hC20.f2
     have hC22:=hC21.h2
     exact Ak (l':=[(0,u1),(4,(ptr b1 0)),(7,v1),(11,u4),(12,(I (List.length a3:Int))),(13,(I x2))]) ⟨z,z,z,z,z,z,Ai⟩<|⟨v1,x1,z,z,hC22⟩
    rintro l3 _ w10 hs3 ⟨v4,x8,rfl,rfl,hC12⟩
    try dsimp only at hL1
    refine AM<|AL hs3<|?_
    clear hs3
    exact Bb<|Bj z z z<|Ag z z<|Ac<|Ak (l':=[(0,u1),(4,(ptr b1 0)),(7,v4),(11,u4),(12,(I (List.length a3:Int))),(13,(I (w64 (x2+1))))]) ⟨z,z,z,z,z,z,Ai⟩<|⟨k1,Av _,v4,x8,w64 (x2+1),z,hC12,hL1⟩
   replace hL1:=AD hL1 hc1
   refine Bt (A1 (A1 (Be ?_)))
   obtain rfl:=Aa hL1
   have hC23:=hC6.h1
   exact Ak (l':=[(7,v1)]) ⟨z,Ai⟩<|⟨v1,x1,z,z,hC23⟩
 rintro l4 _ w16 hs4 ⟨v2,x3,rfl,rfl,hC24⟩
 try dsimp only at hF
 refine AL hs4 ?_
 clear hs4
 refine Ad<|Ag z z<|be hF fun x13 hr7 hF=>?_
 obtain ⟨Fs1,hH1,hn3,hF1,hO1,hb3⟩:=AW (As:=[]) [Ab v2 (x3:(List Int))] hC24
 refine A7 Tryz.call80 z z (c_Slices_Sort_Lint_int x3 v2 hH1 hn3 x13 hr7) ?_
 rintro _ w17 ⟨rfl,hq6⟩
 have hC26:Ctx [] w0 w17 [Ab v2 (x13:(List Int))]:=hb3 _ _ hq6
 refine Ac<|Ad<|Ag z z<|be hF fun x14 hr8 hF=>?_
 obtain ⟨Fs2,hH2,hn4,hF2,hO2,hb4⟩:=AW (As:=[]) [Ab v2 (x13:(List Int))] hC26
 refine A7 Tryz.call81 z z (c_Slices_Compact_Lint_int x13 v2 hH2 hn4 x14 hr8) ?_
 rintro v13 w18 ⟨_,rfl,hq7⟩
 have hC28:Ctx [] w0 w18 [Ab v13 (x14:(List Int))]:=hb4 _ _ hq7
 refine Ae z z<|Ac<|AP<|?_
 obtain rfl:=Aa hF
 exact A8 z z<|⟨_,z,Co hC28 0 z⟩
theorem c_M_IsSchema_c1 {w0:World} (a1:Int) (rr:Bool) (hF:M.IsSchema_c1 a1=some rr) :
 Calls Tryz.prog 145 [(I a1)].toArray w0 fun e w'=>∃v,e=.returned v∧Res w0 rr v w':=by
 refine Au Tryz.func145 z z ?_
 have hC0:=AA w0
 unfold M.IsSchema_c1 at hF
 refine Ad<|Ae z z<|Ac<|Ad<|Ag z z<|be hF fun x1 hr1 hF=>cb BE z z (c_M_within a1 1 3 x1 hr1) fun w1 hB1=>have hC1:=hC0.grow hB1;Bx z z<|Ae z z<|Ac<|AP<|?_
 obtain rfl:=Aa hF
 exact A8 z z<|⟨_,z,AR hC1 _⟩
theorem c_Slices_IndexFunc_Lint_int_M_IsSchema_c1 {w0:World} (a1:(List Int)) (u1:Value) (g1:RO [] w0 u1 a1) (rr:Int) (hF:Slices.IndexFunc_Lint_int_M_IsSchema_c1 a1=some rr) :
 Calls Tryz.prog 99 [u1,(.func (.func 145) #[] #[])].toArray w0 fun e w'=>∃v,e=.returned v∧Res w0 rr v w':=by
 refine Au Ce z z ?_
 have hC0:=AA w0
 unfold Slices.IndexFunc_Lint_int_M_IsSchema_c1 at hF
 refine Ad<|Ae z z<|Ac<|A6<|Ad<|Ag z z<|AZ Ah g1 z z<|Ag z z<|Ac<|be hF fun r1 hr1 hF=>Bd (fun l w=>.inl ()=r1∧l=[]∧Below w0.heap.size w0 w∧Ctx [] w0 w []) ?_ ?_
 ·refine AH<|wS (l':=[(0,u1),(1,(.func (.func 145) #[] #[])),(7,(I (List.length a1:Int))),(8,(I 0))]) ⟨z,z,z,z,Ai⟩<|Bu (fun k l w=>∃x1:Int,l=[(0,u1),(1,(.func (.func 145) #[] #[])),(7,(I (List.length a1:Int))),(8,(I x1))]∧Below w0.heap.size w0 w∧Ctx [] w0 w []∧Slices.IndexFunc_Lint_int_M_IsSchema_c1_l1 a1 k x1=some r1) FUEL ⟨0,z,(Al _ _),hC0,hr1⟩<|?_
  clear hr1
  rintro k1 _ w1 ⟨x1,rfl,hB1,hC1,hL1⟩
  cases k1 with
  | zero=>rw [Slices.IndexFunc_Lint_int_M_IsSchema_c1_l1] at hL1; cases hL1
  | succ k1 =>
   rw [Slices.IndexFunc_Lint_int_M_IsSchema_c1_l1] at hL1
   refine Ad<|Bo z z z<|Ac<|A6<|AI z (fun hc1=>?_) (fun hc1=>?_)
   ·replace hL1:=AC hL1 hc1
    refine AJ<|Am<|A6<|AH<|Ad<|Ag z z<|Ae z z<|Ac<|Ad<|Ag z z<|Ag z z<|Ag z z<|be hL1 fun x2 hx1 hL1=>AG Ah ty3 g1 hx1 z z z fun b1 o1 h1=>A3 ty3 h1 hC1.keep z z fun v1 h2=>?_
    obtain rfl:=Bn h2
    refine be hL1 fun x3 hr2 hL1=>BH (cap:=[]) Tryz.call145 z z z (c_M_IsSchema_c1 x2 x3 hr2) fun _ w2 hv1=>?_
    obtain ⟨rfl,hB2⟩:=BJ hv1
    have hC2:=hC1.grow hB2
    refine Ac<|AI z (fun hc2=>?_) (fun hc2=>?_)
    ·replace hL1:=AC hL1 hc2
     refine Ad<|Ag z z<|Ae z z<|Ac<|AP<|Bk<|Az<|Az<|Bk<|Az<|Az<|?_
     obtain rfl:=Aa hL1
     dsimp only at hF
     obtain rfl:=Aa hF
     exact A8 z z<|⟨_,z,B5 hC2 _⟩
    replace hL1:=AD hL1 hc2
    exact AJ<|AM<|Am<|Bb<|Bj z z z<|Ag z z<|Ac<|Ak (l':=[(0,u1),(1,(.func (.func 145) #[] #[])),(7,(I (List.length a1:Int))),(8,(I (w64 (x1+1))))]) ⟨z,z,z,z,Ai⟩<|⟨k1,Av _,w64 (x1+1),z,((Ap hB1).then hB2).below,hC2,hL1⟩
   replace hL1:=AD hL1 hc1
   refine Bt (A1 (A1 (Be ?_)))
   obtain rfl:=Aa hL1
   exact Ak (l':=[]) Ai<|⟨z,z,(Ap hB1).below,hC1⟩
 rintro l2 _ w3 hs2 ⟨rfl,rfl,hB3,hC3⟩
 try dsimp only at hF
 refine AL hs2 ?_
 clear hs2
 refine Ad<|Ae z z<|Ac<|AP<|?_
 obtain rfl:=Aa hF
 exact A8 z z<|⟨_,z,B5 hC3 _⟩
theorem c_Slices_ContainsFunc_Lint_int_M_IsSchema_c1 {w0:World} (a1:(List Int)) (u1:Value) (g1:RO [] w0 u1 a1) (rr:Bool) (hF:Slices.ContainsFunc_Lint_int_M_IsSchema_c1 a1=some rr) :
 Calls Tryz.prog 71 [u1,(.func (.func 145) #[] #[])].toArray w0 fun e w'=>∃v,e=.returned v∧Res w0 rr v w':=by
 refine Au Cr z z ?_
 have hC0:=AA w0
 unfold Slices.ContainsFunc_Lint_int_M_IsSchema_c1 at hF
 refine Ad<|Ae z z<|Ac<|Ad<|Ag z z<|Ag z z<|be hF fun x1 hr1 hF=>ci Cf z z (c_Slices_IndexFunc_Lint_int_M_IsSchema_c1 a1 u1 (g1.now hC0.keep) x1 hr1) fun w1 hB1=>have hC1:=hC0.grow hB1;Cq z z z<|Ae z z<|Ac<|AP<|?_
 obtain rfl:=Aa hF
 exact A8 z z<|⟨_,z,AR hC1 _⟩
theorem c_M_IsSchema {w0:World} (a1:(List Int)) (u1:Value) (g1:RO [] w0 u1 a1) (rr:Bool) (hF:M.IsSchema a1=some rr) :
 Calls Tryz.prog 114 [u1].toArray w0 fun e w'=>∃v,e=.returned v∧Res w0 rr v w':=by
 refine Au Tryz.func114 z z ?_
 have hC0:=AA w0
 unfold M.IsSchema at hF
 refine Ad<|Ae z z<|Ac<|be hF fun r1 hr1 hF=>BA (fun l w=>∃x1:Bool,x1=r1∧l=[(2,(.bool x1))]∧Below w0.heap.size w0 w∧Ctx [] w0 w []) ?_ ?_
 ·refine Bb<|Ag z z<|AZ Ah g1 z z<|be hr1 fun x2 hr2 hr1=>cb BE z z (c_M_within (List.length a1:Int) 1 3 x2 hr2) fun w2 hB2=>have hC2:=hC0.grow hB2;Ag z z<|Br (fun hc1=>?_) (fun hc1=>?_)
  ·replace hr1:=AC hr1 hc1
   refine Aj z z<|Ag z z<|be hr1 fun x3 hr3 hr1=>Aj z z<|cb Cs z z (c_Slices_ContainsFunc_Lint_int_M_IsSchema_c1 a1 u1 (g1.now hC2.keep) x3 hr3) fun w3 hB3=>have hC3:=hC2.grow hB3;Aj z z<|Bx z z<|AV z z z<|Ae z z<|Ac<|?_
   obtain rfl:=Aa hr1
   exact Ak (l':=[(2,(.bool (!x3)))]) ⟨z,Ai⟩<|⟨(!x3),z,z,((Ap hB2).then hB3).below,hC3⟩
  replace hr1:=AD hr1 hc1
  refine gs z z z z<|gs z z z z<|gs z z z z<|AS z z z<|Ae z z<|Ac<|?_
  obtain rfl:=Aa hr1
  exact Ak (l':=[(2,(.bool false))]) ⟨z,Ai⟩<|⟨false,z,z,(Ap hB2).below,hC2⟩
 rintro _ w1 ⟨x1,rfl,rfl,hB1,hC1⟩
 try dsimp only at hF
 refine AP ?_
 obtain rfl:=Aa hF
 exact A8 z z<|⟨_,z,AR hC1 _⟩
theorem c_M_hasRel {w0:World} (a1:(List Int)) (u1:Value) (g1:RO [] w0 u1 a1) (a2:Int) (rr:Bool) (hF:M.hasRel a1 a2=some rr) :
 Calls Tryz.prog 146 [u1,(I a2)].toArray w0 fun e w'=>∃v,e=.returned v∧Res w0 rr v w':=by
 refine Au Tryz.func146 z z ?_
 have hC0:=AA w0
 unfold M.hasRel at hF
 refine Ad<|Ae z z<|Ac<|be hF fun r1 hr1 hF=>BA (fun l w=>∃x1:Bool,x1=r1∧l=[(4,(.bool x1))]∧Below w0.heap.size w0 w∧Ctx [] w0 w []) ?_ ?_
 ·refine Bb<|Ag z z<|be hr1 fun x2 hr2 hr1=>cb Tryz.call114 z z (c_M_IsSchema a1 u1 (g1.now hC0.keep) x2 hr2) fun w2 hB2=>have hC2:=hC0.grow hB2;Ag z z<|Br (fun hc1=>?_) (fun hc1=>?_)
  ·replace hr1:=AC hr1 hc1
   refine Aj z z<|Ag z z<|Aj z z<|Ag z z<|Aj z z<|AZ Ah g1 z z<|Aj z z<|BN z z z<|be hr1 fun x3 hr3 hr1=>Aj z z<|cb BE z z (c_M_within a2 0 (w64 ((List.length a1:Int) - 1)) x3 hr3) fun w3 hB3=>have hC3:=hC2.grow hB3;AV z z z<|Ae z z<|Ac<|?_
   obtain rfl:=Aa hr1
   exact Ak (l':=[(4,(.bool x3))]) ⟨z,Ai⟩<|⟨x3,z,z,((Ap hB2).then hB3).below,hC3⟩
  replace hr1:=AD hr1 hc1
  refine gs z z z z<|gs z z z z<|gs z z z z<|gs z z z z<|gs z z z z<|AS z z z<|Ae z z<|Ac<|?_
  obtain rfl:=Aa hr1
  exact Ak (l':=[(4,(.bool false))]) ⟨z,Ai⟩<|⟨false,z,z,(Ap hB2).below,hC2⟩
 rintro _ w1 ⟨x1,rfl,rfl,hB1,hC1⟩
 try dsimp only at hF
 refine AP ?_
 obtain rfl:=Aa hF
 exact A8 z z<|⟨_,z,AR hC1 _⟩
theorem c_M_ascending {w0:World} (a1:(List Int)) (u1:Value) (g1:RO [] w0 u1 a1) (rr:Bool) (hF:M.ascending a1=some rr) :
 Calls Tryz.prog 160 [u1].toArray w0 fun e w'=>∃v,e=.returned v∧Res w0 rr v w':=by
 refine Au Tryz.func160 z z ?_
 have hC0:=AA w0
 unfold M.ascending at hF
 refine Ad<|Ae z z<|Ac<|A6<|Ad<|Ag z z<|AZ Ah g1 z z<|Ag z z<|Ac<|be hF fun r1 hr1 hF=>Bd (fun l w=>.inl ()=r1∧l=[]∧Below w0.heap.size w0 w∧Ctx [] w0 w []) ?_ ?_
 ·refine AH<|wS (l':=[(0,u1),(5,(I (List.length a1:Int))),(6,(I 0))]) ⟨z,z,z,Ai⟩<|Bu (fun k l w=>∃x1:Int,l=[(0,u1),(5,(I (List.length a1:Int))),(6,(I x1))]∧Below w0.heap.size w0 w∧Ctx [] w0 w []∧M.ascending_l1 a1 k x1=some r1) FUEL ⟨0,z,(Al _ _),hC0,hr1⟩<|?_
  clear hr1
  rintro k1 _ w1 ⟨x1,rfl,hB1,hC1,hL1⟩
  cases k1 with
  | zero=>rw [M.ascending_l1] at hL1; cases hL1
  | succ k1 =>
   rw [M.ascending_l1] at hL1
   refine Ad<|Bo z z z<|Ac<|A6<|AI z (fun hc1=>?_) (fun hc1=>?_)
   ·replace hL1:=AC hL1 hc1
    refine AJ<|Am<|A6<|AH<|Ad<|Ag z z<|Ae z z<|Ac<|be hL1 fun r2 hr2 hL1=>BA (fun l w=>∃x2:Bool,x2=r2∧l=[(0,u1),(5,(I (List.length a1:Int))),(6,(I x1)),(22,(.bool x2))]∧Below w1.heap.size w1 w∧Ctx [] w0 w []) ?_ ?_
    ·refine B1 14 z hmix fun w3 hB3=>have hC3:=hC1.grow hB3;tm 0 z z z<|tk 1 z z (fl_gtr z z)<|C8 z z z<|Ac<|tm 2 z z z<|BQ (fun hc2=>?_) (fun hc2=>?_)
     ·replace hr2:=AC hr2 hc2
      refine tn 3 z z z z z<|tn 4 z z z z z<|be hr2 fun x3 hx1 hr2=>tg 5 z z z z (B4 Ah ty3 g1 hx1 z z)<|Aj z z<|AG Ah ty3 g1 hx1 z z z fun b1 o1 h1=>Ac<|tn 7 z z z z z<|tn 8 z z z z z<|tg 9 z z z z (C3 z z)<|Aj z z<|BN z z z<|Ac<|be hr2 fun x4 hx2 hr2=>tg 10 z z z z (B4 Ah ty3 g1 hx2 z z)<|Aj z z<|AG Ah ty3 g1 hx2 z z z fun b2 o2 h2=>Ac<|wAS (l':=[(0,u1),(3,(I x1)),(5,(I (List.length a1:Int))),(6,(I x1)),(7,(.bool (decide (x1 < (List.length a1:Int))))),(8,(I x1)),(9,(I x1)),(10,(.bool (decide (0 < x1)))),(11,(.bool true)),(12,u1),(13,(I x1)),(14,(ptr b1 o1)),(16,u1),(17,(I x1)),(18,(I (w64 (x1 - 1)))),(19,(ptr b2 o2))]) ⟨z,z,z,z,z,z,z,z,z,z,z,z,z,z,z,z,Ai⟩<|Bw [⟨6,[],fun vs=>Bh (I x3),[]⟩,⟨11,[],fun vs=>Bh (I x4),[]⟩] [[],[]] 2 z (by kernel_rfl) (by kernel_rfl) z ?_ ?_
      ·refine An z ?_ ?_
       ·intro w4 hB4
        refine Ar<|⟨_,z,?_⟩
        refine Aj z z<|A3 ty3 h1 (hC3.keep.then hB4) z z fun v1 h3=>?_
        obtain rfl:=Bn h3
        exact Ac<|Ay (Al _ _) z z ⟨z,z⟩
       refine An z ?_ ?_
       ·intro w4 hB4
        refine Ar<|⟨_,z,?_⟩
        refine Aj z z<|A3 ty3 h2 (hC3.keep.then hB4) z z fun v2 h4=>?_
        obtain rfl:=Bn h4
        exact Ac<|Ay (Al _ _) z z ⟨z,z⟩
       exact Bp
      intro w5 hB5
      refine At z z z ?_
      rintro _ _ ⟨rfl,rfl⟩
      refine At z z z ?_
      rintro _ _ ⟨rfl,rfl⟩
      refine B0 fun hn1 hb1=>have hC4:=hC3.grow hB5;tg 12 z z z z (fl_leq z z)<|Aj z z<|C7 z z z<|Ac<|tp 13 z z z z<|dn<|?_
      obtain rfl:=Aa hr2
      exact Ak (l':=[(0,u1),(5,(I (List.length a1:Int))),(6,(I x1)),(22,(.bool (decide (x3 ≤ x4))))]) ⟨z,z,z,z,Ai⟩<|⟨(decide (x3 ≤ x4)),z,z,((Ap hB3).then hB5).below,hC4⟩
     replace hr2:=AD hr2 hc2
     refine sk 3 z z z z z<|sk 4 z z z z z<|sk 5 z z z z z<|sk 6 z z z z z<|sk 7 z z z z z<|sk 8 z z z z z<|sk 9 z z z z z<|sk 10 z z z z z<|sk 11 z z z z z<|sk 12 z z z z z<|tq 13 z z z z<|dn<|?_
     obtain rfl:=Aa hr2
     exact Ak (l':=[(0,u1),(5,(I (List.length a1:Int))),(6,(I x1)),(22,(.bool false))]) ⟨z,z,z,z,Ai⟩<|⟨false,z,z,(Ap hB3).below,hC3⟩
    rintro _ w2 ⟨x2,rfl,rfl,hB2,hC2⟩
    try dsimp only at hL1
    refine AI z (fun hc3=>?_) (fun hc3=>?_)
    ·replace hL1:=AC hL1 hc3
     refine Ad<|Ae z z<|Ac<|AP<|Bk<|Az<|Az<|Bk<|Az<|Az<|?_
     obtain rfl:=Aa hL1
     dsimp only at hF
     obtain rfl:=Aa hF
     exact A8 z z<|⟨_,z,AR hC2 _⟩
    replace hL1:=AD hL1 hc3
    exact AJ<|AM<|Am<|Bb<|Bj z z z<|Ag z z<|Ac<|Ak (l':=[(0,u1),(5,(I (List.length a1:Int))),(6,(I (w64 (x1+1))))]) ⟨z,z,z,Ai⟩<|⟨k1,Av _,w64 (x1+1),z,((Ap hB1).then hB2).below,hC2,hL1⟩
   replace hL1:=AD hL1 hc1
   refine Bt (A1 (A1 (Be ?_)))
   obtain rfl:=Aa hL1
   exact Ak (l':=[]) Ai<|⟨z,z,(Ap hB1).below,hC1⟩
 rintro l3 _ w6 hs3 ⟨rfl,rfl,hB6,hC5⟩
 try dsimp only at hF
 refine AL hs3 ?_
 clear hs3
 refine Ad<|Ae z z<|Ac<|AP<|?_
 obtain rfl:=Aa hF
 exact A8 z z<|⟨_,z,AR hC5 _⟩
theorem c_M_Method_fits_c1 {w0:World} (a1:Int) (pb1:Nat) (ax1:Int) (g1:ROAt [] w0 pb1 0 ax1) (rr:Bool) (hF:M.Method_fits_c1 a1 ax1=some rr) :
 Calls Tryz.prog 161 [(I a1),(ptr pb1 0)].toArray w0 fun e w'=>∃v,e=.returned v∧Res w0 rr v w':=by
 refine Au Tryz.func161 z z ?_
 have hC0:=AA w0
 unfold M.Method_fits_c1 at hF
 refine Ad<|Ae z z<|Ac<|Ad<|Ag z z<|A3 ty3 g1 hC0.keep z z fun v1 h1=>?_
 obtain rfl:=Bn h1
 refine BN z z z<|be hF fun x1 hr1 hF=>cb BE z z (c_M_within a1 0 (w64 (ax1 - 1)) x1 hr1) fun w1 hB1=>have hC1:=hC0.grow hB1;Bx z z<|Ae z z<|Ac<|AP<|?_
 obtain rfl:=Aa hF
 exact A8 z z<|⟨_,z,AR hC1 _⟩
theorem c_M_isCost {w0:World} (a1:Int) (rr:Bool) (hF:M.isCost a1=some rr) :
 Calls Tryz.prog 162 [(I a1)].toArray w0 fun e w'=>∃v,e=.returned v∧Res w0 rr v w':=by
 refine Au Tryz.func162 z z ?_
 have hC0:=AA w0
 unfold M.isCost at hF
 refine Ad<|Ae z z<|Ac<|Ad<|Ag z z<|be hF fun x1 hr1 hF=>cb BE z z (c_M_within a1 0 99 x1 hr1) fun w1 hB1=>have hC1:=hC0.grow hB1;Ae z z<|Ac<|AP<|?_
 obtain rfl:=Aa hF
 exact A8 z z<|⟨_,z,AR hC1 _⟩
theorem c_Slices_IndexFunc_Lint_int_M_Method_fits_c1 {w0:World} (a1:(List Int)) (u1:Value) (g1:RO [] w0 u1 a1) (pb1:Nat) (ax1:Int) (g2:ROAt [] w0 pb1 0 ax1) (rr:Int) (hF:Slices.IndexFunc_Lint_int_M_Method_fits_c1 a1 ax1=some rr) :
 Calls Tryz.prog 99 [u1,(.func (.func 161) #[] #[(ptr pb1 0)])].toArray w0 fun e w'=>∃v,e=.returned v∧Res w0 rr v w':=by
 refine Au Ce z z ?_
 have hC0:=AA w0
 unfold Slices.IndexFunc_Lint_int_M_Method_fits_c1 at hF
 refine Ad<|Ae z z<|Ac<|A6<|Ad<|Ag z z<|AZ Ah g1 z z<|Ag z z<|Ac<|be hF fun r1 hr1 hF=>Bd (fun l w=>.inl ()=r1∧l=[]∧Below w0.heap.size w0 w∧Ctx [] w0 w []) ?_ ?_
 ·refine AH<|wS (l':=[(0,u1),(1,(.func (.func 161) #[] #[(ptr pb1 0)])),(7,(I (List.length a1:Int))),(8,(I 0))]) ⟨z,z,z,z,Ai⟩<|Bu (fun k l w=>∃x1:Int,l=[(0,u1),(1,(.func (.func 161) #[] #[(ptr pb1 0)])),(7,(I (List.length a1:Int))),(8,(I x1))]∧Below w0.heap.size w0 w∧Ctx [] w0 w []∧Slices.IndexFunc_Lint_int_M_Method_fits_c1_l1 a1 ax1 k x1=some r1) FUEL ⟨0,z,(Al _ _),hC0,hr1⟩<|?_
  clear hr1
  rintro k1 _ w1 ⟨x1,rfl,hB1,hC1,hL1⟩
  cases k1 with
  | zero=>rw [Slices.IndexFunc_Lint_int_M_Method_fits_c1_l1] at hL1; cases hL1
  | succ k1 =>
   rw [Slices.IndexFunc_Lint_int_M_Method_fits_c1_l1] at hL1
   refine Ad<|Bo z z z<|Ac<|A6<|AI z (fun hc1=>?_) (fun hc1=>?_)
   ·replace hL1:=AC hL1 hc1
    refine AJ<|Am<|A6<|AH<|Ad<|Ag z z<|Ae z z<|Ac<|Ad<|Ag z z<|Ag z z<|Ag z z<|be hL1 fun x2 hx1 hL1=>AG Ah ty3 g1 hx1 z z z fun b1 o1 h1=>A3 ty3 h1 hC1.keep z z fun v1 h2=>?_
    obtain rfl:=Bn h2
    refine be hL1 fun x3 hr2 hL1=>BH (cap:=[(ptr pb1 0)]) Tryz.call161 z z z (c_M_Method_fits_c1 x2 pb1 ax1 (g2.now hC1.keep) x3 hr2) fun _ w2 hv1=>?_
    obtain ⟨rfl,hB2⟩:=BJ hv1
    have hC2:=hC1.grow hB2
    refine Ac<|AI z (fun hc2=>?_) (fun hc2=>?_)
    ·replace hL1:=AC hL1 hc2
     refine Ad<|Ag z z<|Ae z z<|Ac<|AP<|Bk<|Az<|Az<|Bk<|Az<|Az<|?_
     obtain rfl:=Aa hL1
     dsimp only at hF
     obtain rfl:=Aa hF
     exact A8 z z<|⟨_,z,B5 hC2 _⟩
    replace hL1:=AD hL1 hc2
    exact AJ<|AM<|Am<|Bb<|Bj z z z<|Ag z z<|Ac<|Ak (l':=[(0,u1),(1,(.func (.func 161) #[] #[(ptr pb1 0)])),(7,(I (List.length a1:Int))),(8,(I (w64 (x1+1))))]) ⟨z,z,z,z,Ai⟩<|⟨k1,Av _,w64 (x1+1),z,((Ap hB1).then hB2).below,hC2,hL1⟩
   replace hL1:=AD hL1 hc1
   refine Bt (A1 (A1 (Be ?_)))
   obtain rfl:=Aa hL1
   exact Ak (l':=[]) Ai<|⟨z,z,(Ap hB1).below,hC1⟩
 rintro l2 _ w3 hs2 ⟨rfl,rfl,hB3,hC3⟩
 try dsimp only at hF
 refine AL hs2 ?_
 clear hs2
 refine Ad<|Ae z z<|Ac<|AP<|?_
 obtain rfl:=Aa hF
 exact A8 z z<|⟨_,z,B5 hC3 _⟩
theorem c_Slices_ContainsFunc_Lint_int_M_Method_fits_c1 {w0:World} (a1:(List Int)) (u1:Value) (g1:RO [] w0 u1 a1) (pb1:Nat) (ax1:Int) (g2:ROAt [] w0 pb1 0 ax1) (rr:Bool) (hF:Slices.ContainsFunc_Lint_int_M_Method_fits_c1 a1 ax1=some rr) :
 Calls Tryz.prog 71 [u1,(.func (.func 161) #[] #[(ptr pb1 0)])].toArray w0 fun e w'=>∃v,e=.returned v∧Res w0 rr v w':=by
 refine Au Cr z z ?_
 have hC0:=AA w0
 unfold Slices.ContainsFunc_Lint_int_M_Method_fits_c1 at hF
 refine Ad<|Ae z z<|Ac<|Ad<|Ag z z<|Ag z z<|be hF fun x1 hr1 hF=>ci Cf z z (c_Slices_IndexFunc_Lint_int_M_Method_fits_c1 a1 u1 (g1.now hC0.keep) pb1 ax1 (g2.now hC0.keep) x1 hr1) fun w1 hB1=>have hC1:=hC0.grow hB1;Cq z z z<|Ae z z<|Ac<|AP<|?_
 obtain rfl:=Aa hF
 exact A8 z z<|⟨_,z,AR hC1 _⟩
theorem c_M_Method_fits {w0:World} (a1:(Int × (List Int) × Int × Int × Int)) (u1:Value) (g1:RO [] w0 u1 a1.2.1) (a2:Int) (rr:Bool) (hF:M.Method_fits a1 a2=some rr) :
 Calls Tryz.prog 147 [(.agg #[(I a1.1),u1,(I a1.2.2.1),(I a1.2.2.2.1),(I a1.2.2.2.2)]),(I a2)].toArray w0 fun e w'=>∃v,e=.returned v∧Res w0 rr v w':=by
 refine Au Tryz.func147 z z ?_
 have hC0:=AA w0
 unfold M.Method_fits at hF
 refine Ad<|Bv (cs:=[(I a1.1),u1,(I a1.2.2.1),(I a1.2.2.2.1),(I a1.2.2.2.2)]) hC0 z z z fun b1 w1 hC1 hB1 hN1=>Bv (cs:=[(I a2)]) hC1 z z z fun b2 w2 hC2 hB2 hN2=>Ae z z<|Ac<|be hF fun r1 hr1 hF=>BA (fun l w=>∃x1:Bool,x1=r1∧l=[(4,(.bool x1))]∧Below w2.heap.size w2 w∧Ctx [] w0 w []) ?_ ?_
 ·refine Bb<|fd AN Aw z z z z<|Ao hC2 1 z z AQ z z<|be hr1 fun x2 hr2 hr1=>cb Tryz.call160 z z (c_M_ascending a1.2.1 u1 (g1.now hC2.keep) x2 hr2) fun w4 hB4=>have hC4:=hC2.grow hB4;Ag z z<|Br (fun hc1=>?_) (fun hc1=>?_)
  ·replace hr1:=AC hr1 hc1
   refine Aj z z<|fd AN Aw z z z z<|Aj z z<|Ao hC4 1 z z AQ z z<|Aj z z<|BL z z<|be hr1 fun x3 hr3 hr1=>Aj z z<|cb Cs z z (c_Slices_ContainsFunc_Lint_int_M_Method_fits_c1 a1.2.1 u1 (g1.now hC4.keep) b2 a2 (hC4.boxAt 0 z repw_int) x3 hr3) fun w5 hB5=>have hC5:=hC4.grow hB5;Aj z z<|Bx z z<|AV z z z<|Ag z z<|Br (fun hc2=>?_) (fun hc2=>?_)
   ·replace hr1:=AC hr1 hc2
    refine Aj z z<|fd AN AE z z z z<|Aj z z<|Ao hC5 1 z z Bl z z<|be hr1 fun x4 hr4 hr1=>Aj z z<|cb BE z z (c_M_within a1.2.2.1 0 9 x4 hr4) fun w6 hB6=>have hC6:=hC5.grow hB6;AV z z z<|Ag z z<|Br (fun hc3=>?_) (fun hc3=>?_)
    ·replace hr1:=AC hr1 hc3
     refine Aj z z<|fd AN AE z z z z<|Aj z z<|Ao hC6 1 z z Bl z z<|be hr1 fun x5 hr5 hr1=>Aj z z<|cb Tryz.call162 z z (c_M_isCost a1.2.2.2.1 x5 hr5) fun w7 hB7=>have hC7:=hC6.grow hB7;AV z z z<|Ag z z<|Br (fun hc4=>?_) (fun hc4=>?_)
     ·replace hr1:=AC hr1 hc4
      refine Aj z z<|fd AN AE z z z z<|Aj z z<|Ao hC7 1 z z Bl z z<|be hr1 fun x6 hr6 hr1=>Aj z z<|cb BE z z (c_M_within a1.2.2.2.2 1 99 x6 hr6) fun w9 hB8=>have hC8:=hC7.grow hB8;AV z z z<|Ae z z<|Ac<|?_
      obtain rfl:=Aa hr1
      have hC9:=hC8.h0
      exact Ak (l':=[(4,(.bool x6))]) ⟨z,Ai⟩<|⟨x6,z,z,(((((Ap hB4).then hB5).then hB6).then hB7).then hB8).below,hC9⟩
     replace hr1:=AD hr1 hc4
     refine gs z z z z<|gs z z z z<|gs z z z z<|AS z z z<|Ae z z<|Ac<|?_
     obtain rfl:=Aa hr1
     have hC10:=hC7.h0
     exact Ak (l':=[(4,(.bool false))]) ⟨z,Ai⟩<|⟨false,z,z,((((Ap hB4).then hB5).then hB6).then hB7).below,hC10⟩
    replace hr1:=AD hr1 hc3
    refine gs z z z z<|gs z z z z<|gs z z z z<|AS z z z<|Ag z z<|gs z z z z<|gs z z z z<|gs z z z z<|AS z z z<|Ae z z<|Ac<|?_
    obtain rfl:=Aa hr1
    have hC11:=hC6.h0
    exact Ak (l':=[(4,(.bool false))]) ⟨z,Ai⟩<|⟨false,z,z,(((Ap hB4).then hB5).then hB6).below,hC11⟩
   replace hr1:=AD hr1 hc2
   refine gs z z z z<|gs z z z z<|gs z z z z<|AS z z z<|Ag z z<|gs z z z z<|gs z z z z<|gs z z z z<|AS z z z<|Ag z z<|gs z z z z<|gs z z z z<|gs z z z z<|AS z z z<|Ae z z<|Ac<|?_
   obtain rfl:=Aa hr1
   have hC12:=hC5.h0
   exact Ak (l':=[(4,(.bool false))]) ⟨z,Ai⟩<|⟨false,z,z,((Ap hB4).then hB5).below,hC12⟩
  replace hr1:=AD hr1 hc1
  refine gs z z z z<|gs z z z z<|gs z z z z<|gs z z z z<|gs z z z z<|AS z z z<|Ag z z<|gs z z z z<|gs z z z z<|gs z z z z<|AS z z z<|Ag z z<|gs z z z z<|gs z z z z<|gs z z z z<|AS z z z<|Ag z z<|gs z z z z<|gs z z z z<|gs z z z z<|AS z z z<|Ae z z<|Ac<|?_
  obtain rfl:=Aa hr1
  have hC13:=hC4.h0
  exact Ak (l':=[(4,(.bool false))]) ⟨z,Ai⟩<|⟨false,z,z,(Ap hB4).below,hC13⟩
 rintro _ w3 ⟨x1,rfl,rfl,hB3,hC3⟩
 try dsimp only at hF
 refine AP ?_
 obtain rfl:=Aa hF
 exact A8 z z<|⟨_,z,AR hC3 _⟩
theorem c_M_IsMethod {w0:World} (a1:(List Int)) (u1:Value) (g1:RO [] w0 u1 a1) (a2:(Int × (List Int) × Int × Int × Int)) (u2:Value) (g2:RO [] w0 u2 a2.2.1) (rr:Bool) (hF:M.IsMethod a1 a2=some rr) :
 Calls Tryz.prog 117 [u1,(.agg #[(I a2.1),u2,(I a2.2.2.1),(I a2.2.2.2.1),(I a2.2.2.2.2)])].toArray w0 fun e w'=>∃v,e=.returned v∧Res w0 rr v w':=by
 refine Au Tryz.func117 z z ?_
 have hC0:=AA w0
 unfold M.IsMethod at hF
 refine Ad<|Bv (cs:=[(I a2.1),u2,(I a2.2.2.1),(I a2.2.2.2.1),(I a2.2.2.2.2)]) hC0 z z z fun b1 w1 hC1 hB1 hN1=>Ae z z<|Ac<|be hF fun r1 hr1 hF=>BA (fun l w=>∃x1:Bool,x1=r1∧l=[(4,(.bool x1))]∧Below w1.heap.size w1 w∧Ctx [] w0 w []) ?_ ?_
 ·refine B1 14 z hmix fun w3 hB3=>have hC3:=hC1.grow hB3;tm 0 z z z<|tf 1 AN AE z z z z z<|oe 2 z<|Ao hC3 0 z z Bl z z<|Ac<|be hr1 fun x2 hr2 hr1=>oe 3 z<|cb Tryz.call146 z z (c_M_hasRel a1 u1 (g1.now hC3.keep) a2.1 x2 hr2) fun w4 hB4=>have hC4:=hC3.grow hB4;Ac<|tm 4 z z z<|BQ (fun hc1=>?_) (fun hc1=>?_)
  ·replace hr1:=AC hr1 hc1
   refine tn 6 z z z z z<|tg 7 z z z z (BC AN z z (fun w=>⟨_,AE w⟩) z)<|Aj z z<|fd AN AE z z z z<|Ac<|be hr1 fun x3 hx1 hr1=>wAS (l':=[(0,u1),(1,(.agg #[(I a2.1),u2,(I a2.2.2.1),(I a2.2.2.2.1),(I a2.2.2.2.2)])),(3,(ptr b1 0)),(4,(.bool false)),(5,u1),(6,(ptr b1 0)),(7,(I a2.1)),(8,(.bool x2)),(9,(.bool true)),(11,u1),(12,(ptr b1 0))]) ⟨z,z,z,z,z,z,z,z,z,z,z,Ai⟩<|Bw [⟨5,[],fun vs=>Bh (.agg #[(I a2.1),u2,(I a2.2.2.1),(I a2.2.2.2.1),(I a2.2.2.2.2)]),[]⟩,⟨8,[],fun vs=>Bh (I a2.1),[]⟩,⟨9,[],fun vs=>Ci [] w0 x3,[]⟩,⟨10,[],fun vs=>Bh (I x3),[]⟩] [[],[],[8],[9]] 3 z (by kernel_rfl) (by kernel_rfl) z ?_ ?_
   ·refine An z ?_ ?_
    ·intro w5 hB5
     refine Ar<|⟨_,z,?_⟩
     exact Aj z z<|A9 [(I a2.1),u2,(I a2.2.2.1),(I a2.2.2.2.1),(I a2.2.2.2.2)] (hC4.grow hB5) 0 z z z BU B8 z z<|Ac<|Ay (Al _ _) z z ⟨z,z⟩
    refine An z ?_ ?_
    ·intro w5 hB5
     refine Ar<|⟨_,z,?_⟩
     exact Aj z z<|Ao (hC4.grow hB5) 0 z z Bl z z<|Ac<|Ay (Al _ _) z z ⟨z,z⟩
    refine An z ?_ ?_
    ·intro w5 hB5
     refine AK z z z ?_
     rintro _ _ ⟨rfl,rfl⟩ _
     refine Ar<|⟨_,z,?_⟩
     exact Aj z z<|AG Ah ty3 g1 hx1 z z z fun b2 o1 h1=>Ac<|Ay (Al _ _) z z ⟨z,_,_,z,h1⟩
    refine An z ?_ ?_
    ·intro w5 hB5
     refine AK z z z ?_
     rintro _ _ ⟨rfl,b2,o1,rfl,h1⟩ _
     refine Ar<|⟨_,z,?_⟩
     refine Aj z z<|A3 ty3 h1 (hC4.keep.then hB5) z z fun v1 h2=>?_
     obtain rfl:=Bn h2
     exact Ac<|Ay (Al _ _) z z ⟨z,z⟩
    exact Bp
   intro w6 hB6
   refine At z z z ?_
   rintro _ _ ⟨rfl,rfl⟩
   refine At z z z ?_
   rintro _ _ ⟨rfl,rfl⟩
   refine At z z z ?_
   rintro _ _ ⟨rfl,b2,o1,rfl,h1⟩
   refine At z z z ?_
   rintro _ _ ⟨rfl,rfl⟩
   refine B0 fun hn1 hb1=>have hC5:=hC4.grow hB6;be hr1 fun x4 hr3 hr1=>oe 11 z<|Aj z z<|cb Tryz.call147 z z (c_M_Method_fits (a2.1,a2.2.1,a2.2.2.1,a2.2.2.2.1,a2.2.2.2.2) u2 (g2.now hC5.keep) x3 x4 hr3) fun w7 hB7=>have hC6:=hC5.grow hB7;Ac<|tp 12 z z z z<|ta 13 z z z<|dn<|?_
   obtain rfl:=Aa hr1
   have hC7:=hC6.h0
   exact Ak (l':=[(4,(.bool x4))]) ⟨z,Ai⟩<|⟨x4,z,z,((((Ap hB3).then hB4).then hB6).then hB7).below,hC7⟩
  replace hr1:=AD hr1 hc1
  refine sk 5 z z z z z<|sk 6 z z z z z<|sk 7 z z z z z<|sk 8 z z z z z<|sk 9 z z z z z<|sk 10 z z z z z<|sk 11 z z z z z<|tq 12 z z z z<|ta 13 z z z<|dn<|?_
  obtain rfl:=Aa hr1
  have hC8:=hC4.h0
  exact Ak (l':=[(4,(.bool false))]) ⟨z,Ai⟩<|⟨false,z,z,((Ap hB3).then hB4).below,hC8⟩
 rintro _ w2 ⟨x1,rfl,rfl,hB2,hC2⟩
 try dsimp only at hF
 refine AP ?_
 obtain rfl:=Aa hF
 exact A8 z z<|⟨_,z,AR hC2 _⟩
theorem c_M_AreMethods_c1 {w0:World} (a1:(Int × (List Int) × Int × Int × Int)) (u1:Value) (g1:RO [] w0 u1 a1.2.1) (pb1:Nat) (ax1:(List Int)) (g2:ROAt [] w0 pb1 0 ax1) (rr:Bool) (hF:M.AreMethods_c1 a1 ax1=some rr) :
 Calls Tryz.prog 116 [(.agg #[(I a1.1),u1,(I a1.2.2.1),(I a1.2.2.2.1),(I a1.2.2.2.2)]),(ptr pb1 0)].toArray w0 fun e w'=>∃v,e=.returned v∧Res w0 rr v w':=by
 refine Au Tryz.func116 z z ?_
 have hC0:=AA w0
 unfold M.AreMethods_c1 at hF
 refine Ad<|Bv (cs:=[(I a1.1),u1,(I a1.2.2.1),(I a1.2.2.2.1),(I a1.2.2.2.2)]) hC0 z z z fun b1 w1 hC1 hB1 hN1=>Ae z z<|Ac<|Ad<|A3 ty22 g2 hC1.keep z z fun v1 h1=>A9 [(I a1.1),u1,(I a1.2.2.1),(I a1.2.2.2.1),(I a1.2.2.2.2)] hC1 0 z z z BU B8 z z<|be hF fun x1 hr1 hF=>cb Tryz.call117 z z (c_M_IsMethod ax1 v1 (h1.now hC1.keep) (a1.1,a1.2.1,a1.2.2.1,a1.2.2.2.1,a1.2.2.2.2) u1 (g1.now hC1.keep) x1 hr1) fun w2 hB2=>have hC2:=hC1.grow hB2;Bx z z<|Ae z z<|Ac<|AP<|?_
 obtain rfl:=Aa hF
 exact A8 z z<|⟨_,z,AR hC2 _⟩
theorem c_Slices_IndexFunc_Limpl_Method_impl_Method_M_AreMethods_c1 {w0:World} (a1:(List (Int × (List Int) × Int × Int × Int))) (u1:Value) (g1:RO [] w0 u1 a1) (pb1:Nat) (ax1:(List Int)) (g2:ROAt [] w0 pb1 0 ax1) (rr:Int) (hF:Slices.IndexFunc_Limpl_Method_impl_Method_M_AreMethods_c1 a1 ax1=some rr) :
 Calls Tryz.prog 123 [u1,(.func (.func 116) #[] #[(ptr pb1 0)])].toArray w0 fun e w'=>∃v,e=.returned v∧Res w0 rr v w':=by
 refine Au Tryz.func123 z z ?_
 have hC0:=AA w0
 unfold Slices.IndexFunc_Limpl_Method_impl_Method_M_AreMethods_c1 at hF
 refine Ad<|Ae z z<|Ac<|A6<|Ad<|Ag z z<|AZ Bc g1 z z<|Ag z z<|Ac<|be hF fun r1 hr1 hF=>Bd (fun l w=>.inl ()=r1∧l=[]∧Below w0.heap.size w0 w∧Ctx [] w0 w []) ?_ ?_
 ·refine AH<|wS (l':=[(0,u1),(1,(.func (.func 116) #[] #[(ptr pb1 0)])),(7,(I (List.length a1:Int))),(8,(I 0))]) ⟨z,z,z,z,Ai⟩<|Bu (fun k l w=>∃x1:Int,l=[(0,u1),(1,(.func (.func 116) #[] #[(ptr pb1 0)])),(7,(I (List.length a1:Int))),(8,(I x1))]∧Below w0.heap.size w0 w∧Ctx [] w0 w []∧Slices.IndexFunc_Limpl_Method_impl_Method_M_AreMethods_c1_l1 a1 ax1 k x1=some r1) FUEL ⟨0,z,(Al _ _),hC0,hr1⟩<|?_
  clear hr1
  rintro k1 _ w1 ⟨x1,rfl,hB1,hC1,hL1⟩
  cases k1 with
  | zero=>rw [Slices.IndexFunc_Limpl_Method_impl_Method_M_AreMethods_c1_l1] at hL1; cases hL1
  | succ k1 =>
   rw [Slices.IndexFunc_Limpl_Method_impl_Method_M_AreMethods_c1_l1] at hL1
   refine Ad<|Bo z z z<|Ac<|A6<|AI z (fun hc1=>?_) (fun hc1=>?_)
   ·replace hL1:=AC hL1 hc1
    refine AJ<|Am<|A6<|AH<|Ad<|Ag z z<|Ae z z<|Ac<|Ad<|Ag z z<|Ag z z<|Ag z z<|be hL1 fun x2 hx1 hL1=>AG Bc ty71 g1 hx1 z z z fun b1 o1 h1=>A3 ty71 h1 hC1.keep z z fun v1 h2=>?_
    obtain ⟨v2,rfl,h3⟩:=Cz h2
    refine be hL1 fun x3 hr2 hL1=>BH (cap:=[(ptr pb1 0)]) Tryz.call116 z z z (c_M_AreMethods_c1 x2 v2 (h3.now hC1.keep) pb1 ax1 (g2.now hC1.keep) x3 hr2) fun _ w2 hv1=>?_
    obtain ⟨rfl,hB2⟩:=BJ hv1
    have hC2:=hC1.grow hB2
    refine Ac<|AI z (fun hc2=>?_) (fun hc2=>?_)
    ·replace hL1:=AC hL1 hc2
     refine Ad<|Ag z z<|Ae z z<|Ac<|AP<|Bk<|Az<|Az<|Bk<|Az<|Az<|?_
     obtain rfl:=Aa hL1
     dsimp only at hF
     obtain rfl:=Aa hF
     exact A8 z z<|⟨_,z,B5 hC2 _⟩
    replace hL1:=AD hL1 hc2
    exact AJ<|AM<|Am<|Bb<|Bj z z z<|Ag z z<|Ac<|Ak (l':=[(0,u1),(1,(.func (.func 116) #[] #[(ptr pb1 0)])),(7,(I (List.length a1:Int))),(8,(I (w64 (x1+1))))]) ⟨z,z,z,z,Ai⟩<|⟨k1,Av _,w64 (x1+1),z,((Ap hB1).then hB2).below,hC2,hL1⟩
   replace hL1:=AD hL1 hc1
   refine Bt (A1 (A1 (Be ?_)))
   obtain rfl:=Aa hL1
   exact Ak (l':=[]) Ai<|⟨z,z,(Ap hB1).below,hC1⟩
 rintro l2 _ w3 hs2 ⟨rfl,rfl,hB3,hC3⟩
 try dsimp only at hF
 refine AL hs2 ?_
 clear hs2
 refine Ad<|Ae z z<|Ac<|AP<|?_
 obtain rfl:=Aa hF
 exact A8 z z<|⟨_,z,B5 hC3 _⟩
theorem c_Slices_ContainsFunc_Limpl_Method_impl_Method_M_AreMethods_c1 {w0:World} (a1:(List (Int × (List Int) × Int × Int × Int))) (u1:Value) (g1:RO [] w0 u1 a1) (pb1:Nat) (ax1:(List Int)) (g2:ROAt [] w0 pb1 0 ax1) (rr:Bool) (hF:Slices.ContainsFunc_Limpl_Method_impl_Method_M_AreMethods_c1 a1 ax1=some rr) :
 Calls Tryz.prog 115 [u1,(.func (.func 116) #[] #[(ptr pb1 0)])].toArray w0 fun e w'=>∃v,e=.returned v∧Res w0 rr v w':=by
 refine Au Tryz.func115 z z ?_
 have hC0:=AA w0
 unfold Slices.ContainsFunc_Limpl_Method_impl_Method_M_AreMethods_c1 at hF
 refine Ad<|Ae z z<|Ac<|Ad<|Ag z z<|Ag z z<|be hF fun x1 hr1 hF=>ci Tryz.call123 z z (c_Slices_IndexFunc_Limpl_Method_impl_Method_M_AreMethods_c1 a1 u1 (g1.now hC0.keep) pb1 ax1 (g2.now hC0.keep) x1 hr1) fun w1 hB1=>have hC1:=hC0.grow hB1;Cq z z z<|Ae z z<|Ac<|AP<|?_
 obtain rfl:=Aa hF
 exact A8 z z<|⟨_,z,AR hC1 _⟩
theorem c_M_AreMethods {w0:World} (a1:(List Int)) (u1:Value) (g1:RO [] w0 u1 a1) (a2:(List (Int × (List Int) × Int × Int × Int))) (u2:Value) (g2:RO [] w0 u2 a2) (rr:Bool) (hF:M.AreMethods a1 a2=some rr) :
 Calls Tryz.prog 92 [u1,u2].toArray w0 fun e w'=>∃v,e=.returned v∧Res w0 rr v w':=by
 refine Au Tryz.func92 z z ?_
 have hC0:=AA w0
 unfold M.AreMethods at hF
 refine Ad<|Bv (cs:=[u1]) hC0 (Cj g1) z z fun b1 w1 hC1 hB1 hN1=>Ae z z<|Ac<|be hF fun r1 hr1 hF=>BA (fun l w=>∃x1:Bool,x1=r1∧l=[(4,(.bool x1))]∧Below w1.heap.size w1 w∧Ctx [] w0 w []) ?_ ?_
 ·refine Bb<|Ao hC1 0 z z AQ z z<|be hr1 fun x2 hr2 hr1=>cb Tryz.call114 z z (c_M_IsSchema a1 u1 (g1.now hC1.keep) x2 hr2) fun w3 hB3=>have hC3:=hC1.grow hB3;Ag z z<|Br (fun hc1=>?_) (fun hc1=>?_)
  ·replace hr1:=AC hr1 hc1
   refine Aj z z<|Ag z z<|Aj z z<|AZ Bc g2 z z<|Aj z z<|C7 z z z<|AV z z z<|Ag z z<|Br (fun hc2=>?_) (fun hc2=>?_)
   ·replace hr1:=AC hr1 hc2
    refine Aj z z<|Ag z z<|Aj z z<|BL z z<|be hr1 fun x3 hr3 hr1=>Aj z z<|cb Tryz.call115 z z (c_Slices_ContainsFunc_Limpl_Method_impl_Method_M_AreMethods_c1 a2 u2 (g2.now hC3.keep) b1 a1 (hC3.boxAt 0 z (repw_slice (g1.now hC3.keep))) x3 hr3) fun w4 hB4=>have hC4:=hC3.grow hB4;Aj z z<|Bx z z<|AV z z z<|Ae z z<|Ac<|?_
    obtain rfl:=Aa hr1
    have hC5:=hC4.h0
    exact Ak (l':=[(4,(.bool (!x3)))]) ⟨z,Ai⟩<|⟨(!x3),z,z,((Ap hB3).then hB4).below,hC5⟩
   replace hr1:=AD hr1 hc2
   refine gs z z z z<|gs z z z z<|gs z z z z<|gs z z z z<|AS z z z<|Ae z z<|Ac<|?_
   obtain rfl:=Aa hr1
   have hC6:=hC3.h0
   exact Ak (l':=[(4,(.bool false))]) ⟨z,Ai⟩<|⟨false,z,z,(Ap hB3).below,hC6⟩
  replace hr1:=AD hr1 hc1
  refine gs z z z z<|gs z z z z<|gs z z z z<|AS z z z<|Ag z z<|gs z z z z<|gs z z z z<|gs z z z z<|gs z z z z<|AS z z z<|Ae z z<|Ac<|?_
  obtain rfl:=Aa hr1
  have hC7:=hC3.h0
  exact Ak (l':=[(4,(.bool false))]) ⟨z,Ai⟩<|⟨false,z,z,(Ap hB3).below,hC7⟩
 rintro _ w2 ⟨x1,rfl,rfl,hB2,hC2⟩
 try dsimp only at hF
 refine AP ?_
 obtain rfl:=Aa hF
 exact A8 z z<|⟨_,z,AR hC2 _⟩
theorem c_M_IsVar {w0:World} (a1:Int) (rr:Bool) (hF:M.IsVar a1=some rr) :
 Calls Tryz.prog 109 [(I a1)].toArray w0 fun e w'=>∃v,e=.returned v∧Res w0 rr v w':=by
 refine Au Tryz.func109 z z ?_
 have hC0:=AA w0
 unfold M.IsVar at hF
 refine Ad<|Ae z z<|Ac<|Ad<|Ag z z<|be hF fun x1 hr1 hF=>cb BE z z (c_M_within a1 10 17 x1 hr1) fun w1 hB1=>have hC1:=hC0.grow hB1;Ae z z<|Ac<|AP<|?_
 obtain rfl:=Aa hF
 exact A8 z z<|⟨_,z,AR hC1 _⟩
theorem c_M_IsTerm {w0:World} (a1:Int) (rr:Bool) (hF:M.IsTerm a1=some rr) :
 Calls Tryz.prog 164 [(I a1)].toArray w0 fun e w'=>∃v,e=.returned v∧Res w0 rr v w':=by
 refine Au Tryz.func164 z z ?_
 have hC0:=AA w0
 unfold M.IsTerm at hF
 refine Ad<|Ae z z<|Ac<|be hF fun r1 hr1 hF=>BA (fun l w=>∃x1:Bool,x1=r1∧l=[(2,(.bool x1))]∧Below w0.heap.size w0 w∧Ctx [] w0 w []) ?_ ?_
 ·refine Bb<|Ag z z<|be hr1 fun x2 hr2 hr1=>cb Tryz.call98 z z (c_M_isValue a1 x2 hr2) fun w2 hB2=>have hC2:=hC0.grow hB2;Ag z z<|Br (fun hc1=>?_) (fun hc1=>?_)
  ·replace hr1:=AC hr1 hc1
   refine gs z z z z<|gs z z z z<|AV z z z<|Ae z z<|Ac<|?_
   obtain rfl:=Aa hr1
   exact Ak (l':=[(2,(.bool true))]) ⟨z,Ai⟩<|⟨true,z,z,(Ap hB2).below,hC2⟩
  replace hr1:=AD hr1 hc1
  refine Aj z z<|Ag z z<|be hr1 fun x3 hr3 hr1=>Aj z z<|cb Tryz.call109 z z (c_M_IsVar a1 x3 hr3) fun w3 hB3=>have hC3:=hC2.grow hB3;AS z z z<|Ae z z<|Ac<|?_
  obtain rfl:=Aa hr1
  exact Ak (l':=[(2,(.bool x3))]) ⟨z,Ai⟩<|⟨x3,z,z,((Ap hB2).then hB3).below,hC3⟩
 rintro _ w1 ⟨x1,rfl,rfl,hB1,hC1⟩
 try dsimp only at hF
 refine AP ?_
 obtain rfl:=Aa hF
 exact A8 z z<|⟨_,z,AR hC1 _⟩
theorem c_M_areTerms_c1 {w0:World} (a1:Int) (rr:Bool) (hF:M.areTerms_c1 a1=some rr) :
 Calls Tryz.prog 163 [(I a1)].toArray w0 fun e w'=>∃v,e=.returned v∧Res w0 rr v w':=by
 refine Au Tryz.func163 z z ?_
 have hC0:=AA w0
 unfold M.areTerms_c1 at hF
 refine Ad<|Ae z z<|Ac<|Ad<|Ag z z<|be hF fun x1 hr1 hF=>cb Tryz.call164 z z (c_M_IsTerm a1 x1 hr1) fun w1 hB1=>have hC1:=hC0.grow hB1;Bx z z<|Ae z z<|Ac<|AP<|?_
 obtain rfl:=Aa hF
 exact A8 z z<|⟨_,z,AR hC1 _⟩
theorem c_Slices_IndexFunc_Lint_int_M_areTerms_c1 {w0:World} (a1:(List Int)) (u1:Value) (g1:RO [] w0 u1 a1) (rr:Int) (hF:Slices.IndexFunc_Lint_int_M_areTerms_c1 a1=some rr) :
 Calls Tryz.prog 99 [u1,(.func (.func 163) #[] #[])].toArray w0 fun e w'=>∃v,e=.returned v∧Res w0 rr v w':=by
 refine Au Ce z z ?_
 have hC0:=AA w0
 unfold Slices.IndexFunc_Lint_int_M_areTerms_c1 at hF
 refine Ad<|Ae z z<|Ac<|A6<|Ad<|Ag z z<|AZ Ah g1 z z<|Ag z z<|Ac<|be hF fun r1 hr1 hF=>Bd (fun l w=>.inl ()=r1∧l=[]∧Below w0.heap.size w0 w∧Ctx [] w0 w []) ?_ ?_
 ·refine AH<|wS (l':=[(0,u1),(1,(.func (.func 163) #[] #[])),(7,(I (List.length a1:Int))),(8,(I 0))]) ⟨z,z,z,z,Ai⟩<|Bu (fun k l w=>∃x1:Int,l=[(0,u1),(1,(.func (.func 163) #[] #[])),(7,(I (List.length a1:Int))),(8,(I x1))]∧Below w0.heap.size w0 w∧Ctx [] w0 w []∧Slices.IndexFunc_Lint_int_M_areTerms_c1_l1 a1 k x1=some r1) FUEL ⟨0,z,(Al _ _),hC0,hr1⟩<|?_
  clear hr1
  rintro k1 _ w1 ⟨x1,rfl,hB1,hC1,hL1⟩
  cases k1 with
  | zero=>rw [Slices.IndexFunc_Lint_int_M_areTerms_c1_l1] at hL1; cases hL1
  | succ k1 =>
   rw [Slices.IndexFunc_Lint_int_M_areTerms_c1_l1] at hL1
   refine Ad<|Bo z z z<|Ac<|A6<|AI z (fun hc1=>?_) (fun hc1=>?_)
   ·replace hL1:=AC hL1 hc1
    refine AJ<|Am<|A6<|AH<|Ad<|Ag z z<|Ae z z<|Ac<|Ad<|Ag z z<|Ag z z<|Ag z z<|be hL1 fun x2 hx1 hL1=>AG Ah ty3 g1 hx1 z z z fun b1 o1 h1=>A3 ty3 h1 hC1.keep z z fun v1 h2=>?_
    obtain rfl:=Bn h2
    refine be hL1 fun x3 hr2 hL1=>BH (cap:=[]) Tryz.call163 z z z (c_M_areTerms_c1 x2 x3 hr2) fun _ w2 hv1=>?_
    obtain ⟨rfl,hB2⟩:=BJ hv1
    have hC2:=hC1.grow hB2
    refine Ac<|AI z (fun hc2=>?_) (fun hc2=>?_)
    ·replace hL1:=AC hL1 hc2
     refine Ad<|Ag z z<|Ae z z<|Ac<|AP<|Bk<|Az<|Az<|Bk<|Az<|Az<|?_
     obtain rfl:=Aa hL1
     dsimp only at hF
     obtain rfl:=Aa hF
     exact A8 z z<|⟨_,z,B5 hC2 _⟩
    replace hL1:=AD hL1 hc2
    exact AJ<|AM<|Am<|Bb<|Bj z z z<|Ag z z<|Ac<|Ak (l':=[(0,u1),(1,(.func (.func 163) #[] #[])),(7,(I (List.length a1:Int))),(8,(I (w64 (x1+1))))]) ⟨z,z,z,z,Ai⟩<|⟨k1,Av _,w64 (x1+1),z,((Ap hB1).then hB2).below,hC2,hL1⟩
   replace hL1:=AD hL1 hc1
   refine Bt (A1 (A1 (Be ?_)))
   obtain rfl:=Aa hL1
   exact Ak (l':=[]) Ai<|⟨z,z,(Ap hB1).below,hC1⟩
 rintro l2 _ w3 hs2 ⟨rfl,rfl,hB3,hC3⟩
 try dsimp only at hF
 refine AL hs2 ?_
 clear hs2
 refine Ad<|Ae z z<|Ac<|AP<|?_
 obtain rfl:=Aa hF
 exact A8 z z<|⟨_,z,B5 hC3 _⟩
theorem c_Slices_ContainsFunc_Lint_int_M_areTerms_c1 {w0:World} (a1:(List Int)) (u1:Value) (g1:RO [] w0 u1 a1) (rr:Bool) (hF:Slices.ContainsFunc_Lint_int_M_areTerms_c1 a1=some rr) :
 Calls Tryz.prog 71 [u1,(.func (.func 163) #[] #[])].toArray w0 fun e w'=>∃v,e=.returned v∧Res w0 rr v w':=by
 refine Au Cr z z ?_
 have hC0:=AA w0
 unfold Slices.ContainsFunc_Lint_int_M_areTerms_c1 at hF
 refine Ad<|Ae z z<|Ac<|Ad<|Ag z z<|Ag z z<|be hF fun x1 hr1 hF=>ci Cf z z (c_Slices_IndexFunc_Lint_int_M_areTerms_c1 a1 u1 (g1.now hC0.keep) x1 hr1) fun w1 hB1=>have hC1:=hC0.grow hB1;Cq z z z<|Ae z z<|Ac<|AP<|?_
 obtain rfl:=Aa hF
 exact A8 z z<|⟨_,z,AR hC1 _⟩
theorem c_M_areTerms {w0:World} (a1:(List Int)) (u1:Value) (g1:RO [] w0 u1 a1) (rr:Bool) (hF:M.areTerms a1=some rr) :
 Calls Tryz.prog 149 [u1].toArray w0 fun e w'=>∃v,e=.returned v∧Res w0 rr v w':=by
 refine Au Tryz.func149 z z ?_
 have hC0:=AA w0
 unfold M.areTerms at hF
 refine Ad<|Ae z z<|Ac<|Ad<|Ag z z<|be hF fun x1 hr1 hF=>cb Cs z z (c_Slices_ContainsFunc_Lint_int_M_areTerms_c1 a1 u1 (g1.now hC0.keep) x1 hr1) fun w1 hB1=>have hC1:=hC0.grow hB1;Bx z z<|Ae z z<|Ac<|AP<|?_
 obtain rfl:=Aa hF
 exact A8 z z<|⟨_,z,AR hC1 _⟩
theorem c_M_IsAtom {w0:World} (a1:(List Int)) (u1:Value) (g1:RO [] w0 u1 a1) (a2:(Int × (List Int))) (u2:Value) (g2:RO [] w0 u2 a2.2) (rr:Bool) (hF:M.IsAtom a1 a2=some rr) :
 Calls Tryz.prog 120 [u1,(.agg #[(I a2.1),u2])].toArray w0 fun e w'=>∃v,e=.returned v∧Res w0 rr v w':=by
 refine Au Tryz.func120 z z ?_
 have hC0:=AA w0
 unfold M.IsAtom at hF
 refine Ad<|Bv (cs:=[(I a2.1),u2]) hC0 z z z fun b1 w1 hC1 hB1 hN1=>Ae z z<|Ac<|be hF fun r1 hr1 hF=>BA (fun l w=>∃x1:Bool,x1=r1∧l=[(4,(.bool x1))]∧Below w1.heap.size w1 w∧Ctx [] w0 w []) ?_ ?_
 ·refine B1 21 z hmix fun w3 hB3=>have hC3:=hC1.grow hB3;tm 0 z z z<|tf 1 AB AE z z z z z<|oe 2 z<|Ao hC3 0 z z Bl z z<|Ac<|be hr1 fun x2 hr2 hr1=>oe 3 z<|cb Tryz.call146 z z (c_M_hasRel a1 u1 (g1.now hC3.keep) a2.1 x2 hr2) fun w4 hB4=>have hC4:=hC3.grow hB4;Ac<|tm 4 z z z<|BQ (fun hc1=>?_) (fun hc1=>?_)
  ·replace hr1:=AC hr1 hc1
   refine tg 5 z z z z (BC AB z z (fun w=>⟨_,Aw w⟩) z)<|Aj z z<|fd AB Aw z z z z<|Ac<|tn 8 z z z z z<|tg 9 z z z z (BC AB z z (fun w=>⟨_,AE w⟩) z)<|Aj z z<|fd AB AE z z z z<|Ac<|be hr1 fun x3 hx1 hr1=>wAS (l':=[(0,u1),(1,(.agg #[(I a2.1),u2])),(3,(ptr b1 0)),(4,(.bool false)),(5,u1),(6,(ptr b1 0)),(7,(I a2.1)),(8,(.bool x2)),(9,(.bool true)),(10,(ptr b1 1)),(13,u1),(14,(ptr b1 0))]) ⟨z,z,z,z,z,z,z,z,z,z,z,z,Ai⟩<|Bw [⟨6,[],fun vs=>Bh u2,[]⟩,⟨7,[],fun vs=>Bh (I (List.length a2.2:Int)),[]⟩,⟨10,[],fun vs=>Bh (I a2.1),[]⟩,⟨11,[],fun vs=>Ci [] w0 x3,[]⟩,⟨12,[],fun vs=>Bh (I x3),[]⟩] [[],[6],[],[10],[11]] 8 z (by kernel_rfl) (by kernel_rfl) z ?_ ?_
   ·refine An z ?_ ?_
    ·intro w5 hB5
     refine Ar<|⟨_,z,?_⟩
     exact Aj z z<|Ao (hC4.grow hB5) 0 z z AQ z z<|Ac<|Ay (Al _ _) z z ⟨z,z⟩
    refine An z ?_ ?_
    ·intro w5 hB5
     refine AK z z z ?_
     rintro _ _ ⟨rfl,rfl⟩ _
     refine Ar<|⟨_,z,?_⟩
     exact Aj z z<|AZ Ah g2 z z<|Ac<|Ay (Al _ _) z z ⟨z,z⟩
    refine An z ?_ ?_
    ·intro w5 hB5
     refine Ar<|⟨_,z,?_⟩
     exact Aj z z<|Ao (hC4.grow hB5) 0 z z Bl z z<|Ac<|Ay (Al _ _) z z ⟨z,z⟩
    refine An z ?_ ?_
    ·intro w5 hB5
     refine AK z z z ?_
     rintro _ _ ⟨rfl,rfl⟩ _
     refine Ar<|⟨_,z,?_⟩
     exact Aj z z<|AG Ah ty3 g1 hx1 z z z fun b2 o1 h1=>Ac<|Ay (Al _ _) z z ⟨z,_,_,z,h1⟩
    refine An z ?_ ?_
    ·intro w5 hB5
     refine AK z z z ?_
     rintro _ _ ⟨rfl,b2,o1,rfl,h1⟩ _
     refine Ar<|⟨_,z,?_⟩
     refine Aj z z<|A3 ty3 h1 (hC4.keep.then hB5) z z fun v1 h2=>?_
     obtain rfl:=Bn h2
     exact Ac<|Ay (Al _ _) z z ⟨z,z⟩
    exact Bp
   intro w6 hB6
   refine At z z z ?_
   rintro _ _ ⟨rfl,rfl⟩
   refine At z z z ?_
   rintro _ _ ⟨rfl,rfl⟩
   refine At z z z ?_
   rintro _ _ ⟨rfl,rfl⟩
   refine At z z z ?_
   rintro _ _ ⟨rfl,b2,o1,rfl,h1⟩
   refine At z z z ?_
   rintro _ _ ⟨rfl,rfl⟩
   refine B0 fun hn1 hb1=>have hC5:=hC4.grow hB6;tg 13 z z z z (fl_eql z z)<|Aj z z<|BT z z z<|Ac<|tp 14 z z z z<|tm 15 z z z<|BQ (fun hc2=>?_) (fun hc2=>?_)
   ·replace hr1:=AC hr1 hc2
    refine tg 16 z z z z (BC AB z z (fun w=>⟨_,Aw w⟩) z)<|Aj z z<|fd AB Aw z z z z<|Ac<|oe 17 z<|Aj z z<|Ao hC5 0 z z AQ z z<|Ac<|be hr1 fun x4 hr3 hr1=>oe 18 z<|Aj z z<|cb Tryz.call149 z z (c_M_areTerms a2.2 u2 (g2.now hC5.keep) x4 hr3) fun w7 hB7=>have hC6:=hC5.grow hB7;Ac<|tp 19 z z z z<|ta 20 z z z<|dn<|?_
    obtain rfl:=Aa hr1
    have hC7:=hC6.h0
    exact Ak (l':=[(4,(.bool x4))]) ⟨z,Ai⟩<|⟨x4,z,z,((((Ap hB3).then hB4).then hB6).then hB7).below,hC7⟩
   replace hr1:=AD hr1 hc2
   refine sk 16 z z z z z<|sk 17 z z z z z<|sk 18 z z z z z<|tq 19 z z z z<|ta 20 z z z<|dn<|?_
   obtain rfl:=Aa hr1
   have hC8:=hC5.h0
   exact Ak (l':=[(4,(.bool false))]) ⟨z,Ai⟩<|⟨false,z,z,(((Ap hB3).then hB4).then hB6).below,hC8⟩
  replace hr1:=AD hr1 hc1
  refine sk 5 z z z z z<|sk 6 z z z z z<|sk 7 z z z z z<|sk 8 z z z z z<|sk 9 z z z z z<|sk 10 z z z z z<|sk 11 z z z z z<|sk 12 z z z z z<|sk 13 z z z z z<|tq 14 z z z z<|tm 15 z z z<|sk 16 z z z z z<|sk 17 z z z z z<|sk 18 z z z z z<|tq 19 z z z z<|ta 20 z z z<|dn<|?_
  obtain rfl:=Aa hr1
  have hC9:=hC4.h0
  exact Ak (l':=[(4,(.bool false))]) ⟨z,Ai⟩<|⟨false,z,z,((Ap hB3).then hB4).below,hC9⟩
 rintro _ w2 ⟨x1,rfl,rfl,hB2,hC2⟩
 try dsimp only at hF
 refine AP ?_
 obtain rfl:=Aa hF
 exact A8 z z<|⟨_,z,AR hC2 _⟩
theorem c_M_IsQuery_c1 {w0:World} (a1:(Int × (List Int))) (u1:Value) (g1:RO [] w0 u1 a1.2) (pb1:Nat) (ax1:(List Int)) (g2:ROAt [] w0 pb1 0 ax1) (rr:Bool) (hF:M.IsQuery_c1 a1 ax1=some rr) :
 Calls Tryz.prog 119 [(.agg #[(I a1.1),u1]),(ptr pb1 0)].toArray w0 fun e w'=>∃v,e=.returned v∧Res w0 rr v w':=by
 refine Au Tryz.func119 z z ?_
 have hC0:=AA w0
 unfold M.IsQuery_c1 at hF
 refine Ad<|Bv (cs:=[(I a1.1),u1]) hC0 z z z fun b1 w1 hC1 hB1 hN1=>Ae z z<|Ac<|Ad<|A3 ty22 g2 hC1.keep z z fun v1 h1=>A9 [(I a1.1),u1] hC1 0 z z z C9 Ca z z<|be hF fun x1 hr1 hF=>cb Tryz.call120 z z (c_M_IsAtom ax1 v1 (h1.now hC1.keep) (a1.1,a1.2) u1 (g1.now hC1.keep) x1 hr1) fun w2 hB2=>have hC2:=hC1.grow hB2;Bx z z<|Ae z z<|Ac<|AP<|?_
 obtain rfl:=Aa hF
 exact A8 z z<|⟨_,z,AR hC2 _⟩
theorem c_M_termsOf_M_IsVar {w0:World} (a1:(List (Int × (List Int)))) (u1:Value) (g1:RO [] w0 u1 a1) (rr:(List Int)) (hF:M.termsOf_M_IsVar a1=some rr) :
 Calls Tryz.prog 97 [u1,(.func (.func 109) #[] #[])].toArray w0 fun e w'=>∃v,e=.returned v∧Res w0 rr v w':=by
 refine Au Tryz.func97 z z ?_
 have hC0:=AA w0
 unfold M.termsOf_M_IsVar at hF
 refine Ad<|Ae z z<|Ac<|Ad<|A2 (vs:=[]) hC0 Ah ty3 z z z z (by simp) z z fun b1 w1 hC1 hB1=>?_
 have hC2:=hC1.row0 (α:=Int)
 have hC3:=hC2.front 1 z
 dsimp only [List.eraseIdx,List.cons_append,List.nil_append,List.append_nil] at hC3
 have hC4:Ctx [] w0 w1 (Ab (.slice (some ⟨b1,0,none⟩) 0 0) (([]:List Int):List Int)::[]):=hC3.rowOwn (by simp [maxLen])
 refine Ae z z<|Ac<|A6<|Ad<|Ag z z<|AZ Ax g1 z z<|Ag z z<|Ac<|be hF fun r1 hr1 hF=>Bd (fun l w=>∃v2:Value,∃x3:(List Int),x3=r1∧l=[(5,v2)]∧Ctx [] w0 w [Ab v2 (x3:(List Int))]) ?_ ?_
 ·refine AH<|wS (l':=[(1,(.func (.func 109) #[] #[])),(5,(.slice (some ⟨b1,0,none⟩) 0 0)),(11,u1),(12,(I (List.length a1:Int))),(13,(I 0))]) ⟨z,z,z,z,z,Ai⟩<|Bu (fun k l w=>∃v1:Value,∃x1:(List Int),∃x2:Int,l=[(1,(.func (.func 109) #[] #[])),(5,v1),(11,u1),(12,(I (List.length a1:Int))),(13,(I x2))]∧Ctx [] w0 w [Ab v1 (x1:(List Int))]∧M.termsOf_M_IsVar_l1 a1 k x1 x2=some r1) FUEL ⟨(.slice (some ⟨b1,0,none⟩) 0 0),([]:List Int),0,z,hC4,hr1⟩<|?_
  clear hr1
  rintro k1 _ w2 ⟨v1,x1,x2,rfl,hC5,hL1⟩
  cases k1 with
  | zero=>rw [M.termsOf_M_IsVar_l1] at hL1; cases hL1
  | succ k1 =>
   rw [M.termsOf_M_IsVar_l1] at hL1
   refine Ad<|Bo z z z<|Ac<|A6<|AI z (fun hc1=>?_) (fun hc1=>?_)
   ·replace hL1:=AC hL1 hc1
    refine AJ<|Am<|A6<|AH<|Ad<|be hL1 fun x4 hx1 hL1=>AG Ax ty84 g1 hx1 z z z fun b2 o1 h1=>A3 ty84 h1 hC5.keep z z fun v3 h2=>?_
    obtain ⟨v4,rfl,h3⟩:=Cc h2
    refine By hC5 zero84 z z fun b3 w3 hC6 hB3 hN1=>AO (cs':=[(I x4.1),v4]) (new:=[(I x4.1),v4]) hC6 0 z z (fac z<|fac (Bz h3)<|fa0) z Ca z z fun w4 hC7 hKp1=>?_
    try dsimp only [List.set] at hC7
    have hk1:=AY (Ap hB3) hN1 hKp1
    refine Ac<|Ad<|fd AB Aw z z z z<|Ao hC7 0 z z AQ z z<|AZ Ah h3 z z<|Ag z z<|Ac<|be hL1 fun r2 hr2 hL1=>Bd (fun l w=>∃v6:Value,∃x7:(List Int),x7=r2∧l=[(1,(.func (.func 109) #[] #[])),(5,v6),(11,u1),(12,(I (List.length a1:Int))),(13,(I x2))]∧Ctx [] w0 w [Ab v6 (x7:(List Int))]) ?_ ?_
    ·refine AH<|have hC20:=hC7.f1;have hC21:=hC20.h1;wS (l':=[(1,(.func (.func 109) #[] #[])),(5,v1),(11,u1),(12,(I (List.length a1:Int))),(13,(I x2)),(18,v4),(19,(I (List.length x4.2:Int))),(20,(I 0))]) ⟨z,z,z,z,z,z,z,z,Ai⟩<|Bu (fun k l w=>∃v5:Value,∃x5:(List Int),∃x6:Int,l=[(1,(.func (.func 109) #[] #[])),(5,v5),(11,u1),(12,(I (List.length a1:Int))),(13,(I x2)),(18,v4),(19,(I (List.length x4.2:Int))),(20,(I x6))]∧Ctx [] w0 w [Ab v5 (x5:(List Int))]∧M.termsOf_M_IsVar_l2 x4 k x5 x6=some r2) FUEL ⟨v1,x1,0,z,hC21,hr2⟩<|?_
     clear hr2
     rintro k2 _ w5 ⟨v5,x5,x6,rfl,hC8,hL2⟩
     cases k2 with
     | zero=>rw [M.termsOf_M_IsVar_l2] at hL2; cases hL2
     | succ k2 =>
      rw [M.termsOf_M_IsVar_l2] at hL2
      refine Ad<|Bo z z z<|Ac<|A6<|AI z (fun hc2=>?_) (fun hc2=>?_)
      ·replace hL2:=AC hL2 hc2
       refine AJ<|Am<|A6<|AH<|Ad<|be hL2 fun x8 hx2 hL2=>AG Ah ty3 h3 hx2 z z z fun b4 o2 h4=>A3 ty3 h4 hC8.keep z z fun v7 h5=>?_
       obtain rfl:=Bn h5
       refine Ae z z<|Ac<|Ad<|Ag z z<|Ag z z<|be hL2 fun x9 hr3 hL2=>BH (cap:=[]) Tryz.call109 z z z (c_M_IsVar x8 x9 hr3) fun _ w6 hv1=>?_
       obtain ⟨rfl,hB5⟩:=BJ hv1
       have hC9:=hC8.grow hB5
       refine Ac<|be hL2 fun r3 hr4 hL2=>Bd (fun l w=>∃v8:Value,∃x10:(List Int),x10=r3∧l=[(1,(.func (.func 109) #[] #[])),(5,v8),(11,u1),(12,(I (List.length a1:Int))),(13,(I x2)),(18,v4),(19,(I (List.length x4.2:Int))),(20,(I x6))]∧Ctx [] w0 w [Ab v8 (x10:(List Int))]) ?_ ?_
       ·refine AI z (fun hc3=>?_) (fun hc3=>?_)
        ·replace hr4:=AC hr4 hc3
         refine Bb<|Ag z z<|Ag z z<|A2 (vs:=[(I x8)]) hC9 Ah ty3 z z z z (fac z<|fa0) z z fun b5 w9 hC11 hB7=>?_
         have hC12:=hC11.row0 (α:=Int)
         have hC13:=hC12.triv (Bm (x8))
         have hC14:=hC13.row1
         have hC15:=hC14.front 1 z
         dsimp only [List.eraseIdx,List.cons_append,List.nil_append,List.append_nil] at hC15
         have hC16:Ctx [] w0 w9 (Ab (.slice (some ⟨b5,0,none⟩) 1 1) ([x8]:List Int)::[Ab v5 (x5:(List Int))]):=hC15.rowOwn (by simp [maxLen])
         refine be hr4 fun x11 hx3 hr4=>Bi (α:=Int) hC16 1 z (hC16.ro 0 z) (Aq _ _) Ah ty3 z hx3 z z z fun v9 w10 hC17=>?_
         try dsimp only [List.set] at hC17
         refine Ae z z<|Ac<|?_
         obtain rfl:=Aa hr4
         have hC18:=hC17.f1
         have hC19:=hC18.h1
         exact Ak (l':=[(1,(.func (.func 109) #[] #[])),(5,v9),(11,u1),(12,(I (List.length a1:Int))),(13,(I x2)),(18,v4),(19,(I (List.length x4.2:Int))),(20,(I x6))]) ⟨z,z,z,z,z,z,z,z,Ai⟩<|⟨v9,x11,z,z,hC19⟩
        replace hr4:=AD hr4 hc3
        refine AJ ?_
        obtain rfl:=Aa hr4
        exact Ak (l':=[(1,(.func (.func 109) #[] #[])),(5,v5),(11,u1),(12,(I (List.length a1:Int))),(13,(I x2)),(18,v4),(19,(I (List.length x4.2:Int))),(20,(I x6))]) ⟨z,z,z,z,z,z,z,z,Ai⟩<|⟨v5,x5,z,z,hC9⟩
       rintro l3 _ w7 hs3 ⟨v8,x10,rfl,rfl,hC10⟩
       try dsimp only at hL2
       refine AM<|AL hs3<|?_
       clear hs3
       exact Bb<|Bj z z z<|Ag z z<|Ac<|Ak (l':=[(1,(.func (.func 109) #[] #[])),(5,v8),(11,u1),(12,(I (List.length a1:Int))),(13,(I x2)),(18,v4),(19,(I (List.length x4.2:Int))),(20,(I (w64 (x6+1))))]) ⟨z,z,z,z,z,z,z,z,Ai⟩<|⟨k2,Av _,v8,x10,w64 (x6+1),z,hC10,hL2⟩
      replace hL2:=AD hL2 hc2
      refine Bt (A1 (A1 (Be ?_)))
      obtain rfl:=Aa hL2
      exact Ak (l':=[(1,(.func (.func 109) #[] #[])),(5,v5),(11,u1),(12,(I (List.length a1:Int))),(13,(I x2))]) ⟨z,z,z,z,z,Ai⟩<|⟨v5,x5,z,z,hC8⟩
    rintro l4 _ w11 hs4 ⟨v6,x7,rfl,rfl,hC22⟩
    try dsimp only at hL1
    refine AM<|AL hs4<|?_
    clear hs4
    exact Bb<|Bj z z z<|Ag z z<|Ac<|Ak (l':=[(1,(.func (.func 109) #[] #[])),(5,v6),(11,u1),(12,(I (List.length a1:Int))),(13,(I (w64 (x2+1))))]) ⟨z,z,z,z,z,Ai⟩<|⟨k1,Av _,v6,x7,w64 (x2+1),z,hC22,hL1⟩
   replace hL1:=AD hL1 hc1
   refine Bt (A1 (A1 (Be ?_)))
   obtain rfl:=Aa hL1
   exact Ak (l':=[(5,v1)]) ⟨z,Ai⟩<|⟨v1,x1,z,z,hC5⟩
 rintro l5 _ w12 hs5 ⟨v2,x3,rfl,rfl,hC23⟩
 try dsimp only at hF
 refine AL hs5 ?_
 clear hs5
 refine Ad<|Ag z z<|be hF fun x12 hr5 hF=>?_
 obtain ⟨Fs1,hH1,hn1,hF1,hO1,hb1⟩:=AW (As:=[]) [Ab v2 (x3:(List Int))] hC23
 refine A7 Tryz.call80 z z (c_Slices_Sort_Lint_int x3 v2 hH1 hn1 x12 hr5) ?_
 rintro _ w13 ⟨rfl,hq5⟩
 have hC25:Ctx [] w0 w13 [Ab v2 (x12:(List Int))]:=hb1 _ _ hq5
 refine Ac<|Ad<|Ag z z<|be hF fun x13 hr6 hF=>?_
 obtain ⟨Fs2,hH2,hn2,hF2,hO2,hb2⟩:=AW (As:=[]) [Ab v2 (x12:(List Int))] hC25
 refine A7 Tryz.call81 z z (c_Slices_Compact_Lint_int x12 v2 hH2 hn2 x13 hr6) ?_
 rintro v10 w14 ⟨_,rfl,hq6⟩
 have hC27:Ctx [] w0 w14 [Ab v10 (x13:(List Int))]:=hb2 _ _ hq6
 refine Ae z z<|Ac<|AP<|?_
 obtain rfl:=Aa hF
 exact A8 z z<|⟨_,z,Co hC27 0 z⟩
theorem c_M_VarsOf {w0:World} (a1:((List Int) × (List (Int × (List Int))))) (u1:Value) (g1:RO [] w0 u1 a1.1) (u2:Value) (g2:RO [] w0 u2 a1.2) (rr:(List Int)) (hF:M.VarsOf a1=some rr) :
 Calls Tryz.prog 150 [(.agg #[u1,u2])].toArray w0 fun e w'=>∃v,e=.returned v∧Res w0 rr v w':=by
 refine Au Tryz.func150 z z ?_
 have hC0:=AA w0
 unfold M.VarsOf at hF
 refine Ad<|Bv (cs:=[u1,u2]) hC0 z z z fun b1 w1 hC1 hB1 hN1=>Ae z z<|Ac<|Ad<|fd A0 AU z z z z<|Ao hC1 0 z z Ba z z<|be hF fun x1 hr1 hF=>A7 Tryz.call97 z z (c_M_termsOf_M_IsVar a1.2 u2 (g2.now hC1.keep) x1 hr1)<|?_
 rintro v1 w2 ⟨hB2,F1,hv1,hn1,hb1⟩
 have hC2:=hC1.push hB2 (A:=Ab v1 x1) hv1 hn1 hb1
 refine Ae z z<|Ac<|AP<|?_
 obtain rfl:=Aa hF
 exact A8 z z<|⟨_,z,Co hC2 0 z⟩
theorem c_Slices_Index_Lint_int {w0:World} (a1:(List Int)) (u1:Value) (g1:RO [] w0 u1 a1) (a2:Int) (rr:Int) (hF:Slices.Index_Lint_int a1 a2=some rr) :
 Calls Tryz.prog 100 [u1,(I a2)].toArray w0 fun e w'=>∃v,e=.returned v∧Res w0 rr v w':=by
 refine Au Tryz.func100 z z ?_
 have hC0:=AA w0
 unfold Slices.Index_Lint_int at hF
 refine Ad<|Ae z z<|Ac<|A6<|Ad<|Ag z z<|AZ Ah g1 z z<|Ag z z<|Ac<|be hF fun r1 hr1 hF=>Bd (fun l w=>.inl ()=r1∧l=[]∧Below w0.heap.size w0 w∧Ctx [] w0 w []) ?_ ?_
 ·refine AH<|wS (l':=[(0,u1),(1,(I a2)),(7,(I (List.length a1:Int))),(8,(I 0))]) ⟨z,z,z,z,Ai⟩<|Bu (fun k l w=>∃x1:Int,l=[(0,u1),(1,(I a2)),(7,(I (List.length a1:Int))),(8,(I x1))]∧Below w0.heap.size w0 w∧Ctx [] w0 w []∧Slices.Index_Lint_int_l1 a1 a2 k x1=some r1) FUEL ⟨0,z,(Al _ _),hC0,hr1⟩<|?_
  clear hr1
  rintro k1 _ w1 ⟨x1,rfl,hB1,hC1,hL1⟩
  cases k1 with
  | zero=>rw [Slices.Index_Lint_int_l1] at hL1; cases hL1
  | succ k1 =>
   rw [Slices.Index_Lint_int_l1] at hL1
   refine Ad<|Bo z z z<|Ac<|A6<|AI z (fun hc1=>?_) (fun hc1=>?_)
   ·replace hL1:=AC hL1 hc1
    refine AJ<|Am<|A6<|AH<|Ad<|Ag z z<|Ae z z<|Ac<|Ad<|Ag z z<|Ag z z<|Ag z z<|be hL1 fun x2 hx1 hL1=>AG Ah ty3 g1 hx1 z z z fun b1 o1 h1=>A3 ty3 h1 hC1.keep z z fun v1 h2=>?_
    obtain rfl:=Bn h2
    refine BT z z z<|Ac<|AI z (fun hc2=>?_) (fun hc2=>?_)
    ·replace hL1:=AC hL1 hc2
     refine Ad<|Ag z z<|Ae z z<|Ac<|AP<|Bk<|Az<|Az<|Bk<|Az<|Az<|?_
     obtain rfl:=Aa hL1
     dsimp only at hF
     obtain rfl:=Aa hF
     exact A8 z z<|⟨_,z,B5 hC1 _⟩
    replace hL1:=AD hL1 hc2
    exact AJ<|AM<|Am<|Bb<|Bj z z z<|Ag z z<|Ac<|Ak (l':=[(0,u1),(1,(I a2)),(7,(I (List.length a1:Int))),(8,(I (w64 (x1+1))))]) ⟨z,z,z,z,Ai⟩<|⟨k1,Av _,w64 (x1+1),z,(Ap hB1).below,hC1,hL1⟩
   replace hL1:=AD hL1 hc1
   refine Bt (A1 (A1 (Be ?_)))
   obtain rfl:=Aa hL1
   exact Ak (l':=[]) Ai<|⟨z,z,(Ap hB1).below,hC1⟩
 rintro l2 _ w2 hs2 ⟨rfl,rfl,hB2,hC2⟩
 try dsimp only at hF
 refine AL hs2 ?_
 clear hs2
 refine Ad<|Ae z z<|Ac<|AP<|?_
 obtain rfl:=Aa hF
 exact A8 z z<|⟨_,z,B5 hC2 _⟩
theorem c_Slices_Contains_Lint_int {w0:World} (a1:(List Int)) (u1:Value) (g1:RO [] w0 u1 a1) (a2:Int) (rr:Bool) (hF:Slices.Contains_Lint_int a1 a2=some rr) :
 Calls Tryz.prog 66 [u1,(I a2)].toArray w0 fun e w'=>∃v,e=.returned v∧Res w0 rr v w':=by
 refine Au Tryz.func66 z z ?_
 have hC0:=AA w0
 unfold Slices.Contains_Lint_int at hF
 refine Ad<|Ae z z<|Ac<|Ad<|Ag z z<|Ag z z<|be hF fun x1 hr1 hF=>ci Tryz.call100 z z (c_Slices_Index_Lint_int a1 u1 (g1.now hC0.keep) a2 x1 hr1) fun w1 hB1=>have hC1:=hC0.grow hB1;Cq z z z<|Ae z z<|Ac<|AP<|?_
 obtain rfl:=Aa hF
 exact A8 z z<|⟨_,z,AR hC1 _⟩
theorem c_M_hasHead_c1 {w0:World} (a1:Int) (pb1:Nat) (ax1:(List Int)) (g1:ROAt [] w0 pb1 0 ax1) (rr:Bool) (hF:M.hasHead_c1 a1 ax1=some rr) :
 Calls Tryz.prog 151 [(I a1),(ptr pb1 0)].toArray w0 fun e w'=>∃v,e=.returned v∧Res w0 rr v w':=by
 refine Au Tryz.func151 z z ?_
 have hC0:=AA w0
 unfold M.hasHead_c1 at hF
 refine Ad<|Ae z z<|Ac<|Ad<|A3 ty22 g1 hC0.keep z z fun v1 h1=>Ag z z<|be hF fun x1 hr1 hF=>cb CE z z (c_Slices_Contains_Lint_int ax1 v1 (h1.now hC0.keep) a1 x1 hr1) fun w1 hB1=>have hC1:=hC0.grow hB1;Bx z z<|Ae z z<|Ac<|AP<|?_
 obtain rfl:=Aa hF
 exact A8 z z<|⟨_,z,AR hC1 _⟩
theorem c_Slices_IndexFunc_Lint_int_M_hasHead_c1 {w0:World} (a1:(List Int)) (u1:Value) (g1:RO [] w0 u1 a1) (pb1:Nat) (ax1:(List Int)) (g2:ROAt [] w0 pb1 0 ax1) (rr:Int) (hF:Slices.IndexFunc_Lint_int_M_hasHead_c1 a1 ax1=some rr) :
 Calls Tryz.prog 99 [u1,(.func (.func 151) #[] #[(ptr pb1 0)])].toArray w0 fun e w'=>∃v,e=.returned v∧Res w0 rr v w':=by
 refine Au Ce z z ?_
 have hC0:=AA w0
 unfold Slices.IndexFunc_Lint_int_M_hasHead_c1 at hF
 refine Ad<|Ae z z<|Ac<|A6<|Ad<|Ag z z<|AZ Ah g1 z z<|Ag z z<|Ac<|be hF fun r1 hr1 hF=>Bd (fun l w=>.inl ()=r1∧l=[]∧Below w0.heap.size w0 w∧Ctx [] w0 w []) ?_ ?_
 ·refine AH<|wS (l':=[(0,u1),(1,(.func (.func 151) #[] #[(ptr pb1 0)])),(7,(I (List.length a1:Int))),(8,(I 0))]) ⟨z,z,z,z,Ai⟩<|Bu (fun k l w=>∃x1:Int,l=[(0,u1),(1,(.func (.func 151) #[] #[(ptr pb1 0)])),(7,(I (List.length a1:Int))),(8,(I x1))]∧Below w0.heap.size w0 w∧Ctx [] w0 w []∧Slices.IndexFunc_Lint_int_M_hasHead_c1_l1 a1 ax1 k x1=some r1) FUEL ⟨0,z,(Al _ _),hC0,hr1⟩<|?_
  clear hr1
  rintro k1 _ w1 ⟨x1,rfl,hB1,hC1,hL1⟩
  cases k1 with
  | zero=>rw [Slices.IndexFunc_Lint_int_M_hasHead_c1_l1] at hL1; cases hL1
  | succ k1 =>
   rw [Slices.IndexFunc_Lint_int_M_hasHead_c1_l1] at hL1
   refine Ad<|Bo z z z<|Ac<|A6<|AI z (fun hc1=>?_) (fun hc1=>?_)
   ·replace hL1:=AC hL1 hc1
    refine AJ<|Am<|A6<|AH<|Ad<|Ag z z<|Ae z z<|Ac<|Ad<|Ag z z<|Ag z z<|Ag z z<|be hL1 fun x2 hx1 hL1=>AG Ah ty3 g1 hx1 z z z fun b1 o1 h1=>A3 ty3 h1 hC1.keep z z fun v1 h2=>?_
    obtain rfl:=Bn h2
    refine be hL1 fun x3 hr2 hL1=>BH (cap:=[(ptr pb1 0)]) Tryz.call151 z z z (c_M_hasHead_c1 x2 pb1 ax1 (g2.now hC1.keep) x3 hr2) fun _ w2 hv1=>?_
    obtain ⟨rfl,hB2⟩:=BJ hv1
    have hC2:=hC1.grow hB2
    refine Ac<|AI z (fun hc2=>?_) (fun hc2=>?_)
    ·replace hL1:=AC hL1 hc2
     refine Ad<|Ag z z<|Ae z z<|Ac<|AP<|Bk<|Az<|Az<|Bk<|Az<|Az<|?_
     obtain rfl:=Aa hL1
     dsimp only at hF
     obtain rfl:=Aa hF
     exact A8 z z<|⟨_,z,B5 hC2 _⟩
    replace hL1:=AD hL1 hc2
    exact AJ<|AM<|Am<|Bb<|Bj z z z<|Ag z z<|Ac<|Ak (l':=[(0,u1),(1,(.func (.func 151) #[] #[(ptr pb1 0)])),(7,(I (List.length a1:Int))),(8,(I (w64 (x1+1))))]) ⟨z,z,z,z,Ai⟩<|⟨k1,Av _,w64 (x1+1),z,((Ap hB1).then hB2).below,hC2,hL1⟩
   replace hL1:=AD hL1 hc1
   refine Bt (A1 (A1 (Be ?_)))
   obtain rfl:=Aa hL1
   exact Ak (l':=[]) Ai<|⟨z,z,(Ap hB1).below,hC1⟩
 rintro l2 _ w3 hs2 ⟨rfl,rfl,hB3,hC3⟩
 try dsimp only at hF
 refine AL hs2 ?_
 clear hs2
 refine Ad<|Ae z z<|Ac<|AP<|?_
 obtain rfl:=Aa hF
 exact A8 z z<|⟨_,z,B5 hC3 _⟩
theorem c_Slices_ContainsFunc_Lint_int_M_hasHead_c1 {w0:World} (a1:(List Int)) (u1:Value) (g1:RO [] w0 u1 a1) (pb1:Nat) (ax1:(List Int)) (g2:ROAt [] w0 pb1 0 ax1) (rr:Bool) (hF:Slices.ContainsFunc_Lint_int_M_hasHead_c1 a1 ax1=some rr) :
 Calls Tryz.prog 71 [u1,(.func (.func 151) #[] #[(ptr pb1 0)])].toArray w0 fun e w'=>∃v,e=.returned v∧Res w0 rr v w':=by
 refine Au Cr z z ?_
 have hC0:=AA w0
 unfold Slices.ContainsFunc_Lint_int_M_hasHead_c1 at hF
 refine Ad<|Ae z z<|Ac<|Ad<|Ag z z<|Ag z z<|be hF fun x1 hr1 hF=>ci Cf z z (c_Slices_IndexFunc_Lint_int_M_hasHead_c1 a1 u1 (g1.now hC0.keep) pb1 ax1 (g2.now hC0.keep) x1 hr1) fun w1 hB1=>have hC1:=hC0.grow hB1;Cq z z z<|Ae z z<|Ac<|AP<|?_
 obtain rfl:=Aa hF
 exact A8 z z<|⟨_,z,AR hC1 _⟩
theorem c_M_hasHead {w0:World} (a1:((List Int) × (List (Int × (List Int))))) (u1:Value) (g1:RO [] w0 u1 a1.1) (u2:Value) (g2:RO [] w0 u2 a1.2) (rr:Bool) (hF:M.hasHead a1=some rr) :
 Calls Tryz.prog 121 [(.agg #[u1,u2])].toArray w0 fun e w'=>∃v,e=.returned v∧Res w0 rr v w':=by
 refine Au Tryz.func121 z z ?_
 have hC0:=AA w0
 unfold M.hasHead at hF
 refine Ad<|Bv (cs:=[u1,u2]) hC0 z z z fun b1 w1 hC1 hB1 hN1=>Ae z z<|Ac<|Ad<|A9 [u1,u2] hC1 0 z z z AT A4 z z<|be hF fun x1 hr1 hF=>A7 Tryz.call150 z z (c_M_VarsOf (a1.1,a1.2) u1 (g1.now hC1.keep) u2 (g2.now hC1.keep) x1 hr1)<|?_
 rintro v1 w2 ⟨hB2,F1,hv1,hn1,hb1⟩
 have hC2:=hC1.push hB2 (A:=Ab v1 x1) hv1 hn1 hb1
 refine By hC2 zero22 z z fun b2 w3 hC3 hB3 hN2=>B3 (cs':=[v1]) hC3 0 z z (Bz (hC3.ro 1 z)) z Aw z z fun w4 hC4 hKp1=>?_
 try dsimp only [List.set] at hC4
 have hk1:=AY (((Ap hB1).then hB2).then hB3) (Bg ((Ap hB1).then hB2).size hN2) hKp1
 have hk2:=AY ((Ap hB2).then hB3) (Bg (Ap hB2).size hN2) hKp1
 have hk3:=AY (Ap hB3) hN2 hKp1
 refine Ac<|be hF fun r1 hr2 hF=>BA (fun l w=>∃x2:Bool,x2=r1∧l=[(2,(.bool x2))]∧Below w4.heap.size w4 w∧Ctx [] w0 w []) ?_ ?_
 ·refine Bb<|fd A0 Aw z z z z<|Ao hC4 2 z z AQ z z<|AZ Ah g1 z z<|C7 z z z<|Ag z z<|Br (fun hc1=>?_) (fun hc1=>?_)
  ·replace hr2:=AC hr2 hc1
   refine Aj z z<|fd A0 Aw z z z z<|Aj z z<|Ao hC4 2 z z AQ z z<|Aj z z<|BL z z<|be hr2 fun x3 hr3 hr2=>Aj z z<|cb Cs z z (c_Slices_ContainsFunc_Lint_int_M_hasHead_c1 a1.1 u1 (g1.now hC4.keep) b2 x1 (hC4.boxAt 0 z (repw_slice (hC4.ro 1 z))) x3 hr3) fun w6 hB5=>have hC6:=hC4.grow hB5;Aj z z<|Bx z z<|AV z z z<|Ae z z<|Ac<|?_
   obtain rfl:=Aa hr2
   have hC7:=hC6.h0
   exact Ak (l':=[(2,(.bool (!x3)))]) ⟨z,Ai⟩<|⟨(!x3),z,z,(Ap hB5).below,hC7⟩
  replace hr2:=AD hr2 hc1
  refine gs z z z z<|gs z z z z<|gs z z z z<|gs z z z z<|gs z z z z<|AS z z z<|Ae z z<|Ac<|?_
  obtain rfl:=Aa hr2
  have hC8:=hC4.h0
  exact Ak (l':=[(2,(.bool false))]) ⟨z,Ai⟩<|⟨false,z,z,(Al _ _),hC8⟩
 rintro _ w5 ⟨x2,rfl,rfl,hB4,hC5⟩
 try dsimp only at hF
 refine AP ?_
 obtain rfl:=Aa hF
 exact A8 z z<|⟨_,z,AR hC5 _⟩
theorem c_Slices_IndexFunc_Limpl_Atom_impl_Atom_M_IsQuery_c1 {w0:World} (a1:(List (Int × (List Int)))) (u1:Value) (g1:RO [] w0 u1 a1) (pb1:Nat) (ax1:(List Int)) (g2:ROAt [] w0 pb1 0 ax1) (rr:Int) (hF:Slices.IndexFunc_Limpl_Atom_impl_Atom_M_IsQuery_c1 a1 ax1=some rr) :
 Calls Tryz.prog 148 [u1,(.func (.func 119) #[] #[(ptr pb1 0)])].toArray w0 fun e w'=>∃v,e=.returned v∧Res w0 rr v w':=by
 refine Au Tryz.func148 z z ?_
 have hC0:=AA w0
 unfold Slices.IndexFunc_Limpl_Atom_impl_Atom_M_IsQuery_c1 at hF
 refine Ad<|Ae z z<|Ac<|A6<|Ad<|Ag z z<|AZ Ax g1 z z<|Ag z z<|Ac<|be hF fun r1 hr1 hF=>Bd (fun l w=>.inl ()=r1∧l=[]∧Below w0.heap.size w0 w∧Ctx [] w0 w []) ?_ ?_
 ·refine AH<|wS (l':=[(0,u1),(1,(.func (.func 119) #[] #[(ptr pb1 0)])),(7,(I (List.length a1:Int))),(8,(I 0))]) ⟨z,z,z,z,Ai⟩<|Bu (fun k l w=>∃x1:Int,l=[(0,u1),(1,(.func (.func 119) #[] #[(ptr pb1 0)])),(7,(I (List.length a1:Int))),(8,(I x1))]∧Below w0.heap.size w0 w∧Ctx [] w0 w []∧Slices.IndexFunc_Limpl_Atom_impl_Atom_M_IsQuery_c1_l1 a1 ax1 k x1=some r1) FUEL ⟨0,z,(Al _ _),hC0,hr1⟩<|?_
  clear hr1
  rintro k1 _ w1 ⟨x1,rfl,hB1,hC1,hL1⟩
  cases k1 with
  | zero=>rw [Slices.IndexFunc_Limpl_Atom_impl_Atom_M_IsQuery_c1_l1] at hL1; cases hL1
  | succ k1 =>
   rw [Slices.IndexFunc_Limpl_Atom_impl_Atom_M_IsQuery_c1_l1] at hL1
   refine Ad<|Bo z z z<|Ac<|A6<|AI z (fun hc1=>?_) (fun hc1=>?_)
   ·replace hL1:=AC hL1 hc1
    refine AJ<|Am<|A6<|AH<|Ad<|Ag z z<|Ae z z<|Ac<|Ad<|Ag z z<|Ag z z<|Ag z z<|be hL1 fun x2 hx1 hL1=>AG Ax ty84 g1 hx1 z z z fun b1 o1 h1=>A3 ty84 h1 hC1.keep z z fun v1 h2=>?_
    obtain ⟨v2,rfl,h3⟩:=Cc h2
    refine be hL1 fun x3 hr2 hL1=>BH (cap:=[(ptr pb1 0)]) Tryz.call119 z z z (c_M_IsQuery_c1 x2 v2 (h3.now hC1.keep) pb1 ax1 (g2.now hC1.keep) x3 hr2) fun _ w2 hv1=>?_
    obtain ⟨rfl,hB2⟩:=BJ hv1
    have hC2:=hC1.grow hB2
    refine Ac<|AI z (fun hc2=>?_) (fun hc2=>?_)
    ·replace hL1:=AC hL1 hc2
     refine Ad<|Ag z z<|Ae z z<|Ac<|AP<|Bk<|Az<|Az<|Bk<|Az<|Az<|?_
     obtain rfl:=Aa hL1
     dsimp only at hF
     obtain rfl:=Aa hF
     exact A8 z z<|⟨_,z,B5 hC2 _⟩
    replace hL1:=AD hL1 hc2
    exact AJ<|AM<|Am<|Bb<|Bj z z z<|Ag z z<|Ac<|Ak (l':=[(0,u1),(1,(.func (.func 119) #[] #[(ptr pb1 0)])),(7,(I (List.length a1:Int))),(8,(I (w64 (x1+1))))]) ⟨z,z,z,z,Ai⟩<|⟨k1,Av _,w64 (x1+1),z,((Ap hB1).then hB2).below,hC2,hL1⟩
   replace hL1:=AD hL1 hc1
   refine Bt (A1 (A1 (Be ?_)))
   obtain rfl:=Aa hL1
   exact Ak (l':=[]) Ai<|⟨z,z,(Ap hB1).below,hC1⟩
 rintro l2 _ w3 hs2 ⟨rfl,rfl,hB3,hC3⟩
 try dsimp only at hF
 refine AL hs2 ?_
 clear hs2
 refine Ad<|Ae z z<|Ac<|AP<|?_
 obtain rfl:=Aa hF
 exact A8 z z<|⟨_,z,B5 hC3 _⟩
theorem c_Slices_ContainsFunc_Limpl_Atom_impl_Atom_M_IsQuery_c1 {w0:World} (a1:(List (Int × (List Int)))) (u1:Value) (g1:RO [] w0 u1 a1) (pb1:Nat) (ax1:(List Int)) (g2:ROAt [] w0 pb1 0 ax1) (rr:Bool) (hF:Slices.ContainsFunc_Limpl_Atom_impl_Atom_M_IsQuery_c1 a1 ax1=some rr) :
 Calls Tryz.prog 118 [u1,(.func (.func 119) #[] #[(ptr pb1 0)])].toArray w0 fun e w'=>∃v,e=.returned v∧Res w0 rr v w':=by
 refine Au Tryz.func118 z z ?_
 have hC0:=AA w0
 unfold Slices.ContainsFunc_Limpl_Atom_impl_Atom_M_IsQuery_c1 at hF
 refine Ad<|Ae z z<|Ac<|Ad<|Ag z z<|Ag z z<|be hF fun x1 hr1 hF=>ci Tryz.call148 z z (c_Slices_IndexFunc_Limpl_Atom_impl_Atom_M_IsQuery_c1 a1 u1 (g1.now hC0.keep) pb1 ax1 (g2.now hC0.keep) x1 hr1) fun w1 hB1=>have hC1:=hC0.grow hB1;Cq z z z<|Ae z z<|Ac<|AP<|?_
 obtain rfl:=Aa hF
 exact A8 z z<|⟨_,z,AR hC1 _⟩
theorem c_M_IsQuery {w0:World} (a1:(List Int)) (u1:Value) (g1:RO [] w0 u1 a1) (a2:((List Int) × (List (Int × (List Int))))) (u2:Value) (g2:RO [] w0 u2 a2.1) (u3:Value) (g3:RO [] w0 u3 a2.2) (rr:Bool) (hF:M.IsQuery a1 a2=some rr) :
 Calls Tryz.prog 93 [u1,(.agg #[u2,u3])].toArray w0 fun e w'=>∃v,e=.returned v∧Res w0 rr v w':=by
 refine Au Tryz.func93 z z ?_
 have hC0:=AA w0
 unfold M.IsQuery at hF
 refine Ad<|Bv (cs:=[u1]) hC0 (Cj g1) z z fun b1 w1 hC1 hB1 hN1=>Bv (cs:=[u2,u3]) hC1 z z z fun b2 w2 hC2 hB2 hN2=>Ae z z<|Ac<|be hF fun r1 hr1 hF=>BA (fun l w=>∃x1:Bool,x1=r1∧l=[(4,(.bool x1))]∧Below w2.heap.size w2 w∧Ctx [] w0 w []) ?_ ?_
 ·refine Bb<|Ao hC2 1 z z AQ z z<|be hr1 fun x2 hr2 hr1=>cb Tryz.call114 z z (c_M_IsSchema a1 u1 (g1.now hC2.keep) x2 hr2) fun w4 hB4=>have hC4:=hC2.grow hB4;Ag z z<|Br (fun hc1=>?_) (fun hc1=>?_)
  ·replace hr1:=AC hr1 hc1
   refine Aj z z<|fd A0 AU z z z z<|Aj z z<|Ao hC4 0 z z Ba z z<|Aj z z<|AZ Ax g3 z z<|be hr1 fun x3 hr3 hr1=>Aj z z<|cb BE z z (c_M_within (List.length a2.2:Int) 1 4 x3 hr3) fun w5 hB5=>have hC5:=hC4.grow hB5;AV z z z<|Ag z z<|Br (fun hc2=>?_) (fun hc2=>?_)
   ·replace hr1:=AC hr1 hc2
    refine Aj z z<|fd A0 AU z z z z<|Aj z z<|Ao hC5 0 z z Ba z z<|Aj z z<|BL z z<|be hr1 fun x4 hr4 hr1=>Aj z z<|cb Tryz.call118 z z (c_Slices_ContainsFunc_Limpl_Atom_impl_Atom_M_IsQuery_c1 a2.2 u3 (g3.now hC5.keep) b1 a1 (hC5.boxAt 1 z (repw_slice (g1.now hC5.keep))) x4 hr4) fun w6 hB6=>have hC6:=hC5.grow hB6;Aj z z<|Bx z z<|AV z z z<|Ag z z<|Br (fun hc3=>?_) (fun hc3=>?_)
    ·replace hr1:=AC hr1 hc3
     refine Aj z z<|A9 [u2,u3] hC6 0 z z z AT A4 z z<|be hr1 fun x5 hr5 hr1=>Aj z z<|cb Tryz.call121 z z (c_M_hasHead (a2.1,a2.2) u2 (g2.now hC6.keep) u3 (g3.now hC6.keep) x5 hr5) fun w7 hB7=>have hC7:=hC6.grow hB7;AV z z z<|Ae z z<|Ac<|?_
     obtain rfl:=Aa hr1
     have hC8:=hC7.h0
     exact Ak (l':=[(4,(.bool x5))]) ⟨z,Ai⟩<|⟨x5,z,z,((((Ap hB4).then hB5).then hB6).then hB7).below,hC8⟩
    replace hr1:=AD hr1 hc3
    refine gs z z z z<|gs z z z z<|AS z z z<|Ae z z<|Ac<|?_
    obtain rfl:=Aa hr1
    have hC9:=hC6.h0
    exact Ak (l':=[(4,(.bool false))]) ⟨z,Ai⟩<|⟨false,z,z,(((Ap hB4).then hB5).then hB6).below,hC9⟩
   replace hr1:=AD hr1 hc2
   refine gs z z z z<|gs z z z z<|gs z z z z<|gs z z z z<|gs z z z z<|AS z z z<|Ag z z<|gs z z z z<|gs z z z z<|AS z z z<|Ae z z<|Ac<|?_
   obtain rfl:=Aa hr1
   have hC10:=hC5.h0
   exact Ak (l':=[(4,(.bool false))]) ⟨z,Ai⟩<|⟨false,z,z,((Ap hB4).then hB5).below,hC10⟩
  replace hr1:=AD hr1 hc1
  refine gs z z z z<|gs z z z z<|gs z z z z<|gs z z z z<|AS z z z<|Ag z z<|gs z z z z<|gs z z z z<|gs z z z z<|gs z z z z<|gs z z z z<|AS z z z<|Ag z z<|gs z z z z<|gs z z z z<|AS z z z<|Ae z z<|Ac<|?_
  obtain rfl:=Aa hr1
  have hC11:=hC4.h0
  exact Ak (l':=[(4,(.bool false))]) ⟨z,Ai⟩<|⟨false,z,z,(Ap hB4).below,hC11⟩
 rintro _ w3 ⟨x1,rfl,rfl,hB3,hC3⟩
 try dsimp only at hF
 refine AP ?_
 obtain rfl:=Aa hF
 exact A8 z z<|⟨_,z,AR hC3 _⟩
theorem c_M_areAsked {w0:World} (a1:(List Int)) (u1:Value) (g1:RO [] w0 u1 a1) (a2:(List (Int × (List Int) × Int × Int × Int))) (u2:Value) (g2:RO [] w0 u2 a2) (a3:((List Int) × (List (Int × (List Int))))) (u3:Value) (g3:RO [] w0 u3 a3.1) (u4:Value) (g4:RO [] w0 u4 a3.2) (rr:Bool) (hF:M.areAsked a1 a2 a3=some rr) :
 Calls Tryz.prog 58 [u1,u2,(.agg #[u3,u4])].toArray w0 fun e w'=>∃v,e=.returned v∧Res w0 rr v w':=by
 refine Au Tryz.func58 z z ?_
 have hC0:=AA w0
 unfold M.areAsked at hF
 refine Ad<|Bv (cs:=[u3,u4]) hC0 z z z fun b1 w1 hC1 hB1 hN1=>Ae z z<|Ac<|be hF fun r1 hr1 hF=>BA (fun l w=>∃x1:Bool,x1=r1∧l=[(6,(.bool x1))]∧Below w1.heap.size w1 w∧Ctx [] w0 w []) ?_ ?_
 ·refine Bb<|Ag z z<|Ag z z<|be hr1 fun x2 hr2 hr1=>cb Tryz.call92 z z (c_M_AreMethods a1 u1 (g1.now hC1.keep) a2 u2 (g2.now hC1.keep) x2 hr2) fun w3 hB3=>have hC3:=hC1.grow hB3;Ag z z<|Br (fun hc1=>?_) (fun hc1=>?_)
  ·replace hr1:=AC hr1 hc1
   refine Aj z z<|Ag z z<|Aj z z<|A9 [u3,u4] hC3 0 z z z AT A4 z z<|be hr1 fun x3 hr3 hr1=>Aj z z<|cb Tryz.call93 z z (c_M_IsQuery a1 u1 (g1.now hC3.keep) (a3.1,a3.2) u3 (g3.now hC3.keep) u4 (g4.now hC3.keep) x3 hr3) fun w4 hB4=>have hC4:=hC3.grow hB4;AV z z z<|Ae z z<|Ac<|?_
   obtain rfl:=Aa hr1
   have hC5:=hC4.h0
   exact Ak (l':=[(6,(.bool x3))]) ⟨z,Ai⟩<|⟨x3,z,z,((Ap hB3).then hB4).below,hC5⟩
  replace hr1:=AD hr1 hc1
  refine gs z z z z<|gs z z z z<|gs z z z z<|AS z z z<|Ae z z<|Ac<|?_
  obtain rfl:=Aa hr1
  have hC6:=hC3.h0
  exact Ak (l':=[(6,(.bool false))]) ⟨z,Ai⟩<|⟨false,z,z,(Ap hB3).below,hC6⟩
 rintro _ w2 ⟨x1,rfl,rfl,hB2,hC2⟩
 try dsimp only at hF
 refine AP ?_
 obtain rfl:=Aa hF
 exact A8 z z<|⟨_,z,AR hC2 _⟩
theorem c_M_CanCall_c1 {w0:World} (a1:Int) (pb1:Nat) (ax1:(Int × (List Int))) (g1:ROAt [] w0 pb1 0 ax1) (pb2:Nat) (ax2:(List Int)) (g2:ROAt [] w0 pb2 0 ax2) (rr:Bool) (hF:M.CanCall_c1 a1 ax1 ax2=some rr) :
 Calls Tryz.prog 108 [(I a1),(ptr pb1 0),(ptr pb2 0)].toArray w0 fun e w'=>∃v,e=.returned v∧Res w0 rr v w':=by
 refine Au Tryz.func108 z z ?_
 have hC0:=AA w0
 unfold M.CanCall_c1 at hF
 refine Ad<|Ae z z<|Ac<|be hF fun r1 hr1 hF=>BA (fun l w=>∃x1:Bool,x1=r1∧l=[(4,(.bool x1))]∧Below w0.heap.size w0 w∧Ctx [] w0 w []) ?_ ?_
 ·refine B1 26 z hmix fun w2 hB2=>have hC2:=hC0.grow hB2;tm 0 z z z<|tf 1 AB Aw z z z z z<|oe 2 z<|A3 ty22 g1.snd hC2.keep z z fun v1 h1=>Ac<|tk 3 z z (CJ Ah h1 z)<|AZ Ah h1 z z<|Ac<|tk 4 z z (C3 z z)<|BN z z z<|Ac<|be hr1 fun x2 hr2 hr1=>oe 5 z<|cb BE z z (c_M_within a1 0 (w64 ((List.length ax1.2:Int) - 1)) x2 hr2) fun w3 hB3=>have hC3:=hC2.grow hB3;Ac<|tk 6 z z (Cm z)<|Bx z z<|Ac<|tm 7 z z z<|BQ (fun hc1=>?_) (fun hc1=>?_)
  ·replace hr1:=AC hr1 hc1
   refine sk 8 z z z z z<|sk 9 z z z z z<|sk 10 z z z z z<|sk 11 z z z z z<|sk 12 z z z z z<|sk 13 z z z z z<|sk 14 z z z z z<|sk 15 z z z z z<|sk 16 z z z z z<|sk 17 z z z z z<|sk 18 z z z z z<|sk 19 z z z z z<|sk 20 z z z z z<|sk 21 z z z z z<|sk 22 z z z z z<|sk 23 z z z z z<|tp 24 z z z z<|ta 25 z z z<|dn<|?_
   obtain rfl:=Aa hr1
   exact Ak (l':=[(4,(.bool true))]) ⟨z,Ai⟩<|⟨true,z,z,((Ap hB2).then hB3).below,hC3⟩
  replace hr1:=AD hr1 hc1
  refine tg 8 z z z z (BC AB z z (fun w=>⟨_,Aw w⟩) z)<|Aj z z<|fd AB Aw z z z z<|Ac<|tn 10 z z z z z<|oe 9 z<|Aj z z<|A3 ty22 g1.snd hC3.keep z z fun v2 h2=>Ac<|be hr1 fun x3 hx1 hr1=>tg 11 z z z z (B4 Ah ty3 h2 hx1 z z)<|Aj z z<|AG Ah ty3 h2 hx1 z z z fun b1 o1 h3=>Ac<|oe 12 z<|Aj z z<|A3 ty3 h3 hC3.keep z z fun v3 h4=>?_
  obtain rfl:=Bn h4
  refine Ac<|be hr1 fun x4 hr3 hr1=>oe 13 z<|Aj z z<|cb Tryz.call109 z z (c_M_IsVar x3 x4 hr3) fun w4 hB4=>have hC4:=hC3.grow hB4;Ac<|tn 14 z z z z z<|BQ (fun hc2=>?_) (fun hc2=>?_)
  ·replace hr1:=AC hr1 hc2
   refine tg 16 z z z z (BC AB z z (fun w=>⟨_,Aw w⟩) z)<|Aj z z<|fd AB Aw z z z z<|Ac<|tn 18 z z z z z<|be hr1 fun x5 hx2 hr1=>wAS (l':=[(0,(I a1)),(1,(ptr pb1 0)),(2,(ptr pb2 0)),(4,(.bool false)),(5,(I a1)),(6,(ptr pb1 (0+1))),(7,v1),(8,(I (List.length ax1.2:Int))),(9,(I (w64 ((List.length ax1.2:Int) - 1)))),(10,(.bool x2)),(11,(.bool (!x2))),(12,(.bool false)),(13,(ptr pb1 (0+1))),(14,v2),(15,(I a1)),(16,(ptr b1 o1)),(17,(I x3)),(18,(.bool x4)),(19,(.bool true)),(21,(ptr pb1 (0+1))),(23,(I a1))]) ⟨z,z,z,z,z,z,z,z,z,z,z,z,z,z,z,z,z,z,z,z,z,Ai⟩<|Bw [⟨15,[],fun vs=>Ct [] w0 ax2,[]⟩,⟨17,[],fun vs=>Ct [] w0 ax1.2,[]⟩,⟨19,[],fun vs=>Ci [] w0 x5,[]⟩,⟨20,[],fun vs=>Bh (I x5),[]⟩] [[],[],[17],[19]] 5 z (by kernel_rfl) (by kernel_rfl) z ?_ ?_
   ·refine An z ?_ ?_
    ·intro w5 hB5
     refine Ar<|⟨_,z,?_⟩
     exact Aj z z<|A3 ty22 g2 (hC4.keep.then hB5) z z fun v4 h5=>Ac<|Ay (Al _ _) z z ⟨z,h5⟩
    refine An z ?_ ?_
    ·intro w5 hB5
     refine Ar<|⟨_,z,?_⟩
     exact Aj z z<|A3 ty22 g1.snd (hC4.keep.then hB5) z z fun v5 h6=>Ac<|Ay (Al _ _) z z ⟨z,h6⟩
    refine An z ?_ ?_
    ·intro w5 hB5
     refine AK z z z ?_
     rintro v5 _ ⟨rfl,h6⟩ _
     refine Ar<|⟨_,z,?_⟩
     exact Aj z z<|AG Ah ty3 h6 hx2 z z z fun b2 o2 h7=>Ac<|Ay (Al _ _) z z ⟨z,_,_,z,h7⟩
    refine An z ?_ ?_
    ·intro w5 hB5
     refine AK z z z ?_
     rintro _ _ ⟨rfl,b2,o2,rfl,h7⟩ _
     refine Ar<|⟨_,z,?_⟩
     refine Aj z z<|A3 ty3 h7 (hC4.keep.then hB5) z z fun v6 h8=>?_
     obtain rfl:=Bn h8
     exact Ac<|Ay (Al _ _) z z ⟨z,z⟩
    exact Bp
   intro w6 hB6
   refine At z z z ?_
   rintro v4 _ ⟨rfl,h5⟩
   refine At z z z ?_
   rintro v5 _ ⟨rfl,h6⟩
   refine At z z z ?_
   rintro _ _ ⟨rfl,b2,o2,rfl,h7⟩
   refine At z z z ?_
   rintro _ _ ⟨rfl,rfl⟩
   refine B0 fun hn1 hb1=>have hC5:=hC4.grow hB6;be hr1 fun x6 hr4 hr1=>oe 21 z<|Aj z z<|cb CE z z (c_Slices_Contains_Lint_int ax2 v4 (h5.now hC5.keep) x5 x6 hr4) fun w7 hB7=>have hC6:=hC5.grow hB7;Ac<|tg 22 z z z z (Cm z)<|Aj z z<|Bx z z<|Ac<|tg 23 z z z z (fl_pick_t z z)<|Aj z z<|AV z z z<|Ac<|tq 24 z z z z<|ta 25 z z z<|dn<|?_
   obtain rfl:=Aa hr1
   exact Ak (l':=[(4,(.bool (!x6)))]) ⟨z,Ai⟩<|⟨(!x6),z,z,(((((Ap hB2).then hB3).then hB4).then hB6).then hB7).below,hC6⟩
  replace hr1:=AD hr1 hc2
  refine sk 15 z z z z z<|sk 16 z z z z z<|sk 17 z z z z z<|sk 18 z z z z z<|sk 19 z z z z z<|sk 20 z z z z z<|sk 21 z z z z z<|sk 22 z z z z z<|tg 23 z z z z (fl_pick_f z z)<|Aj z z<|AS z z z<|Ac<|tq 24 z z z z<|ta 25 z z z<|dn<|?_
  obtain rfl:=Aa hr1
  exact Ak (l':=[(4,(.bool false))]) ⟨z,Ai⟩<|⟨false,z,z,(((Ap hB2).then hB3).then hB4).below,hC4⟩
 rintro _ w1 ⟨x1,rfl,rfl,hB1,hC1⟩
 try dsimp only at hF
 refine AP ?_
 obtain rfl:=Aa hF
 exact A8 z z<|⟨_,z,AR hC1 _⟩
theorem c_Slices_IndexFunc_Lint_int_M_CanCall_c1 {w0:World} (a1:(List Int)) (u1:Value) (g1:RO [] w0 u1 a1) (pb1:Nat) (ax1:(Int × (List Int))) (g2:ROAt [] w0 pb1 0 ax1) (pb2:Nat) (ax2:(List Int)) (g3:ROAt [] w0 pb2 0 ax2) (rr:Int) (hF:Slices.IndexFunc_Lint_int_M_CanCall_c1 a1 ax1 ax2=some rr) :
 Calls Tryz.prog 99 [u1,(.func (.func 108) #[] #[(ptr pb1 0),(ptr pb2 0)])].toArray w0 fun e w'=>∃v,e=.returned v∧Res w0 rr v w':=by
 refine Au Ce z z ?_
 have hC0:=AA w0
 unfold Slices.IndexFunc_Lint_int_M_CanCall_c1 at hF
 refine Ad<|Ae z z<|Ac<|A6<|Ad<|Ag z z<|AZ Ah g1 z z<|Ag z z<|Ac<|be hF fun r1 hr1 hF=>Bd (fun l w=>.inl ()=r1∧l=[]∧Below w0.heap.size w0 w∧Ctx [] w0 w []) ?_ ?_
 ·refine AH<|wS (l':=[(0,u1),(1,(.func (.func 108) #[] #[(ptr pb1 0),(ptr pb2 0)])),(7,(I (List.length a1:Int))),(8,(I 0))]) ⟨z,z,z,z,Ai⟩<|Bu (fun k l w=>∃x1:Int,l=[(0,u1),(1,(.func (.func 108) #[] #[(ptr pb1 0),(ptr pb2 0)])),(7,(I (List.length a1:Int))),(8,(I x1))]∧Below w0.heap.size w0 w∧Ctx [] w0 w []∧Slices.IndexFunc_Lint_int_M_CanCall_c1_l1 a1 ax1 ax2 k x1=some r1) FUEL ⟨0,z,(Al _ _),hC0,hr1⟩<|?_
  clear hr1
  rintro k1 _ w1 ⟨x1,rfl,hB1,hC1,hL1⟩
  cases k1 with
  | zero=>rw [Slices.IndexFunc_Lint_int_M_CanCall_c1_l1] at hL1; cases hL1
  | succ k1 =>
   rw [Slices.IndexFunc_Lint_int_M_CanCall_c1_l1] at hL1
   refine Ad<|Bo z z z<|Ac<|A6<|AI z (fun hc1=>?_) (fun hc1=>?_)
   ·replace hL1:=AC hL1 hc1
    refine AJ<|Am<|A6<|AH<|Ad<|Ag z z<|Ae z z<|Ac<|Ad<|Ag z z<|Ag z z<|Ag z z<|be hL1 fun x2 hx1 hL1=>AG Ah ty3 g1 hx1 z z z fun b1 o1 h1=>A3 ty3 h1 hC1.keep z z fun v1 h2=>?_
    obtain rfl:=Bn h2
    refine be hL1 fun x3 hr2 hL1=>BH (cap:=[(ptr pb1 0),(ptr pb2 0)]) Tryz.call108 z z z (c_M_CanCall_c1 x2 pb1 ax1 (g2.now hC1.keep) pb2 ax2 (g3.now hC1.keep) x3 hr2) fun _ w2 hv1=>?_
    obtain ⟨rfl,hB2⟩:=BJ hv1
    have hC2:=hC1.grow hB2
    refine Ac<|AI z (fun hc2=>?_) (fun hc2=>?_)
    ·replace hL1:=AC hL1 hc2
     refine Ad<|Ag z z<|Ae z z<|Ac<|AP<|Bk<|Az<|Az<|Bk<|Az<|Az<|?_
     obtain rfl:=Aa hL1
     dsimp only at hF
     obtain rfl:=Aa hF
     exact A8 z z<|⟨_,z,B5 hC2 _⟩
    replace hL1:=AD hL1 hc2
    exact AJ<|AM<|Am<|Bb<|Bj z z z<|Ag z z<|Ac<|Ak (l':=[(0,u1),(1,(.func (.func 108) #[] #[(ptr pb1 0),(ptr pb2 0)])),(7,(I (List.length a1:Int))),(8,(I (w64 (x1+1))))]) ⟨z,z,z,z,Ai⟩<|⟨k1,Av _,w64 (x1+1),z,((Ap hB1).then hB2).below,hC2,hL1⟩
   replace hL1:=AD hL1 hc1
   refine Bt (A1 (A1 (Be ?_)))
   obtain rfl:=Aa hL1
   exact Ak (l':=[]) Ai<|⟨z,z,(Ap hB1).below,hC1⟩
 rintro l2 _ w3 hs2 ⟨rfl,rfl,hB3,hC3⟩
 try dsimp only at hF
 refine AL hs2 ?_
 clear hs2
 refine Ad<|Ae z z<|Ac<|AP<|?_
 obtain rfl:=Aa hF
 exact A8 z z<|⟨_,z,B5 hC3 _⟩
end Go.Gx.Px
